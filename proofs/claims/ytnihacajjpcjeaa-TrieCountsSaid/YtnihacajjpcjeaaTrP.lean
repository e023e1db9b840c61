/- Tries: one pointer is written anew; a node is put in; a value is written; nodes are taken away. -/
import Derived.Test.YtnihacajjpcjeaaTrG
namespace Go.Proofs.Ytnihacajjpcjeaa
open Go.RowKit Go.Proofs.YtnihacajjpcjeaaW.PrintWords Go.Proofs.YtnihacajjpcjeaaW.PrintLast Go.Proofs.YtnihacajjpcjeaaW.PrintMore
set_option linter.unusedVariables false
set_option linter.unusedSimpArgs false
set_option linter.unusedSectionVars false

section
variable {V : Type} (K : TK V)
/-- the pointer to the node at π isn't written yet: u stands there -/
def ptrU (D : Way → Bool) (blk : Way → Nat) (π : Way) (u : Value) (ρ : Way) : Value := if ρ = π then u else ptrT D blk ρ
def nodeU (D : Way → Bool) (m : Way → Option V) (blk : Way → Nat) (π : Way) (u : Value) (ρ : Way) : Array Value :=
  #[ptrU D blk π u (ρ ++ [false]), ptrU D blk π u (ρ ++ [true]), .bool (m ρ).isSome, K.emb ((m ρ).getD K.z)]
structure TrieBut (w : World) (bt : Nat) (n : Int) (D : Way → Bool) (m : Way → Option V) (blk : Way → Nat) (π : Way) (u : Value) : Prop where
  lies : ∀ ρ, D ρ = true → w.heap[blk ρ]? = some (.cells (nodeU K D m blk π u ρ) K.tn (0, 0))
  inj : ∀ π ρ, D π = true → D ρ = true → blk π = blk ρ → π = ρ
  up : ∀ π b, D (π ++ [b]) = true → D π = true
  sup : ∀ π, (m π).isSome = true → D π = true
  root : w.heap[bt]? = some (.cells #[ptrU D blk π u [], .int .i64 n] K.tt (0, 0))
  ne : ∀ π, D π = true → blk π ≠ bt
/-- where the pointer to a node stands -/
def IsSlot (bt : Nat) (D : Way → Bool) (blk : Way → Nat) (π : Way) (s : Addr) : Prop :=
  (π = [] ∧ s = ⟨bt, 0, none⟩) ∨ ∃ ρ c, π = ρ ++ [c] ∧ D ρ = true ∧ s = ⟨blk ρ, c.toNat, none⟩
end
section
variable {V : Type} {K : TK V} {w w' : World} {bt : Nat} {n : Int} {D : Way → Bool} {m : Way → Option V} {blk : Way → Nat}
theorem ptrU_ne {π ρ : Way} {u : Value} (h : ρ ≠ π) : ptrU D blk π u ρ = ptrT D blk ρ := if_neg h
theorem ptrU_eq {π : Way} {u : Value} : ptrU D blk π u π = u := if_pos rfl
theorem snoc_inj {ρ π : Way} {a b : Bool} (h : ρ ++ [a] = π ++ [b]) : ρ = π ∧ a = b := by
  have := List.append_inj' h rfl
  exact ⟨this.1, by simpa using this.2⟩
theorem TrieAt.but (h : TrieAt K w bt n D m blk) (π : Way) : TrieBut K w bt n D m blk π (ptrT D blk π) := by
  have e : ∀ ρ, ptrU D blk π (ptrT D blk π) ρ = ptrT D blk ρ := fun ρ => by
    unfold ptrU; split
    · rename_i h; rw [h]
    · rfl
  refine ⟨fun ρ hp => ?_, h.nodes.inj, h.nodes.up, h.nodes.sup, ?_, h.ne⟩
  · unfold nodeU; rw [e, e]; exact h.nodes.lies ρ hp
  · rw [e]; exact h.root
theorem TrieBut.keep {π : Way} {u : Value} (h : TrieBut K w bt n D m blk π u) (hk : ∀ b, b = bt ∨ (∃ ρ, D ρ = true ∧ b = blk ρ) → w'.heap[b]? = w.heap[b]?) : TrieBut K w' bt n D m blk π u :=
  ⟨fun ρ hp => (hk _ (.inr ⟨ρ, hp, rfl⟩)).trans (h.lies ρ hp), h.inj, h.up, h.sup, (hk _ (.inl rfl)).trans h.root, h.ne⟩
theorem TrieBut.drewN {π : Way} {u : Value} (h : TrieBut K w bt n D m blk π u) (k : Nat) : TrieBut K (w.drewN k) bt n D m blk π u := ⟨h.lies, h.inj, h.up, h.sup, h.root, h.ne⟩
/-- the pointer is written -/
theorem TrieBut.set {π : Way} {u : Value} {s : Addr} (h : TrieBut K w bt n D m blk π u) (hs : IsSlot bt D blk π s) : TrieAt K (w.setCell s (ptrT D blk π)) bt n D m blk := by
  rcases hs with ⟨rfl, rfl⟩ | ⟨ρ0, c, rfl, hD, rfl⟩
  · refine ⟨⟨fun ρ hp => ?_, h.inj, h.up, h.sup⟩, ?_, h.ne⟩
    · rw [Below.heap_setCell _ _ _ _ (h.ne ρ hp), h.lies ρ hp]
      unfold nodeU nodeT
      rw [ptrU_ne (by simp), ptrU_ne (by simp)]
    · exact blk_set h.root 0 _
  · refine ⟨⟨fun ρ hp => ?_, h.inj, h.up, h.sup⟩, ?_, h.ne⟩
    · by_cases e : ρ = ρ0
      · subst e
        rw [blk_set (h.lies ρ hp)]
        cases c with
        | false =>
          unfold nodeU nodeT
          rw [ptrU_eq, ptrU_ne (fun hh => by have := (snoc_inj hh).2; cases this)]
          rfl
        | true =>
          unfold nodeU nodeT
          rw [ptrU_eq, ptrU_ne (fun hh => by have := (snoc_inj hh).2; cases this)]
          rfl
      · rw [Below.heap_setCell _ _ _ _ (fun hh => e (h.inj _ _ hp hD hh)), h.lies ρ hp]
        unfold nodeU nodeT
        rw [ptrU_ne (fun hh => e (snoc_inj hh).1), ptrU_ne (fun hh => e (snoc_inj hh).1)]
    · rw [Below.heap_setCell _ _ _ _ (fun hh => h.ne ρ0 hD hh.symm), h.root, ptrU_ne (by simp)]
/-- a node is put in -/
def addD (D : Way → Bool) (π : Way) : Way → Bool := fun ρ => D ρ || decide (ρ = π)
def addB (blk : Way → Nat) (π : Way) (b : Nat) : Way → Nat := fun ρ => if ρ = π then b else blk ρ
theorem addD_self (D : Way → Bool) (π : Way) : addD D π π = true := by simp [addD]
theorem addD_of {D : Way → Bool} {π ρ : Way} (h : D ρ = true) : addD D π ρ = true := by simp [addD, h]
theorem TrieAt.grow (h : TrieAt K w bt n D m blk) {π : Way} (hD : D π = false) (hup : π = [] ∨ ∃ ρ c, π = ρ ++ [c] ∧ D ρ = true) :
    TrieBut K (w.alloc (.cells #[.pointer none, .pointer none, .bool false, K.emb K.z] K.tn)) bt n (addD D π) m (addB blk π w.heap.size) π (.pointer none) := by
  have hne : ∀ ρ, D ρ = true → ρ ≠ π := fun ρ hp e => by rw [e, hD] at hp; cases hp
  have hkid : ∀ b, D (π ++ [b]) = false := fun b => by
    cases hd : D (π ++ [b]) with
    | false => rfl
    | true => rw [h.nodes.up _ _ hd] at hD; cases hD
  have hptr : ∀ ρ, ptrU (addD D π) (addB blk π w.heap.size) π (.pointer none) ρ = ptrT D blk ρ := fun ρ => by
    unfold ptrU
    split
    · rename_i e; subst e; exact (ptrT_none hD).symm
    · rename_i e
      unfold ptrT addD addB
      simp [e]
  have hm : m π = none := by
    cases hv : m π with
    | none => rfl
    | some v => have := h.nodes.sup π (by rw [hv]; rfl); rw [hD] at this; cases this
  have hcase : ∀ ρ, addD D π ρ = true → ρ = π ∨ D ρ = true := fun ρ hp => by
    unfold addD at hp
    rcases Bool.or_eq_true_iff.1 hp with h1 | h1
    · exact .inr h1
    · exact .inl (by simpa using h1)
  have hb1 : addB blk π w.heap.size π = w.heap.size := by simp [addB]
  have hb2 : ∀ ρ, D ρ = true → addB blk π w.heap.size ρ = blk ρ := fun ρ hp => by unfold addB; rw [if_neg (hne ρ hp)]
  refine ⟨fun ρ hp => ?_, fun ρ σ hp hq he => ?_, fun ρ b hp => ?_, fun ρ hp => addD_of (h.nodes.sup ρ hp), ?_, fun ρ hp => ?_⟩
  · unfold nodeU
    rw [hptr, hptr]
    rcases hcase ρ hp with rfl | hd
    · rw [hb1, heap_alloc_new, ptrT_none (hkid _), ptrT_none (hkid _), hm]
      rfl
    · rw [hb2 ρ hd]
      exact blk_alloc (h.nodes.lies ρ hd) _
  · rcases hcase ρ hp with rfl | hd <;> rcases hcase σ hq with rfl | hd2
    · rfl
    · rw [hb1, hb2 σ hd2] at he
      have := h.nodes.lt hd2; omega
    · rw [hb1, hb2 ρ hd] at he
      have := h.nodes.lt hd; omega
    · rw [hb2 ρ hd, hb2 σ hd2] at he
      exact h.nodes.inj _ _ hd hd2 he
  · rcases hcase _ hp with e | hd
    · rcases hup with e2 | ⟨σ, c, e2, hd⟩
      · rw [e2] at e; simp at e
      · rw [e2] at e
        obtain ⟨rfl, _⟩ := snoc_inj e
        exact addD_of hd
    · exact addD_of (h.nodes.up _ _ hd)
  · rw [hptr]
    exact blk_alloc h.root _
  · rcases hcase ρ hp with rfl | hd
    · rw [hb1]; have := blk_lt h.root; omega
    · rw [hb2 ρ hd]; exact h.ne ρ hd
/-- a value is written -/
def putM (m : Way → Option V) (π : Way) (v : Option V) : Way → Option V := fun ρ => if ρ = π then v else m ρ
theorem putM_self (m : Way → Option V) (π : Way) (v : Option V) : putM m π v π = v := by simp [putM]
theorem putM_ne {m : Way → Option V} {π ρ : Way} {v : Option V} (h : ρ ≠ π) : putM m π v ρ = m ρ := by simp [putM, h]
theorem TrieAt.write (h : TrieAt K w bt n D m blk) {π : Way} (hD : D π = true) (v : Option V) :
    TrieAt K ((w.setCell ⟨blk π, 2, none⟩ (.bool v.isSome)).setCell ⟨blk π, 3, none⟩ (K.emb (v.getD K.z))) bt n D (putM m π v) blk := by
  refine ⟨⟨fun ρ hp => ?_, h.nodes.inj, h.nodes.up, fun ρ hp => ?_⟩, ?_, h.ne⟩
  · by_cases e : ρ = π
    · subst e
      rw [blk_set (blk_set (h.nodes.lies ρ hp) 2 _)]
      unfold nodeT
      rw [putM_self]
      rfl
    · have hb : blk ρ ≠ blk π := fun hh => e (h.nodes.inj _ _ hp hD hh)
      rw [Below.heap_setCell _ _ _ _ hb, Below.heap_setCell _ _ _ _ hb, h.nodes.lies ρ hp]
      unfold nodeT
      rw [putM_ne e]
  · by_cases e : ρ = π
    · rw [e]; exact hD
    · rw [putM_ne e] at hp; exact h.nodes.sup ρ hp
  · rw [Below.heap_setCell _ _ _ _ (fun hh => h.ne π hD hh.symm), Below.heap_setCell _ _ _ _ (fun hh => h.ne π hD hh.symm)]
    exact h.root
/-- how many is written -/
theorem TrieAt.count (h : TrieAt K w bt n D m blk) (n' : Int) : TrieAt K (w.setCell ⟨bt, 1, none⟩ (.int .i64 n')) bt n' D m blk := by
  refine ⟨h.nodes.keep (fun π hp => Below.heap_setCell _ _ _ _ (h.ne π hp)), ?_, h.ne⟩
  rw [blk_set h.root]
  rfl
/-- a node without value and kids is taken away -/
def delD (D : Way → Bool) (π : Way) : Way → Bool := fun ρ => D ρ && !decide (ρ = π)
theorem TrieAt.lop (h : TrieAt K w bt n D m blk) {π : Way} (hm : m π = none) (hk : ∀ b, D (π ++ [b]) = false) : TrieBut K w bt n (delD D π) m blk π (ptrT D blk π) := by
  have hcase : ∀ ρ, delD D π ρ = true → D ρ = true ∧ ρ ≠ π := fun ρ hp => by unfold delD at hp; simpa using hp
  have hptr : ∀ ρ, ptrU (delD D π) blk π (ptrT D blk π) ρ = ptrT D blk ρ := fun ρ => by
    unfold ptrU
    split
    · rename_i e; rw [e]
    · rename_i e; unfold ptrT delD; simp [e]
  refine ⟨fun ρ hp => ?_, fun ρ σ hp hq he => h.nodes.inj _ _ (hcase ρ hp).1 (hcase σ hq).1 he, fun ρ b hp => ?_, fun ρ hp => ?_, ?_, fun ρ hp => h.ne ρ (hcase ρ hp).1⟩
  · unfold nodeU
    rw [hptr, hptr]
    exact h.nodes.lies ρ (hcase ρ hp).1
  · obtain ⟨h1, h2⟩ := hcase _ hp
    have h3 := h.nodes.up _ _ h1
    unfold delD
    simp only [h3, Bool.true_and, Bool.not_eq_true', decide_eq_false_iff_not]
    intro e
    subst e
    rw [hk b] at h1; cases h1
  · unfold delD
    have h3 := h.nodes.sup ρ hp
    simp only [h3, Bool.true_and, Bool.not_eq_true', decide_eq_false_iff_not]
    intro e
    subst e
    rw [hm] at hp; cases hp
  · rw [hptr]
    exact h.root
end
theorem cell_keep {X w' : World} (h : Below X.heap.size X w') {p : Addr} {v : Value} (hc : X.cell? p = some v) : w'.cell? p = some v := (h.cell (World.block_lt_of_cell? _ _ hc)).trans hc
theorem Kb.cell {own : Nat → Prop} {w w' : World} (hk : Kb own w w') {p : Addr} {v : Value} (hc : w.cell? p = some v) (ho : ¬ own p.block) : w'.cell? p = some v := by
  have hb := hk.block _ (World.block_lt_of_cell? _ _ hc) ho
  unfold World.cell? at hc ⊢; rw [hb]; exact hc
end Go.Proofs.Ytnihacajjpcjeaa
