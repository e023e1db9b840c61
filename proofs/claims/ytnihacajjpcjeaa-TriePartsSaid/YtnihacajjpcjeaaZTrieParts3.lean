/- Part of the proof of RowTrieParts: what it asks of functions, words and plain facts (put together by this session's own program, wip/tools/shake.py). -/
import Derived.Test.YtnihacajjpcjeaaZTrieParts0
import Derived.Test.YtnihacajjpcjeaaZTrieParts1
import Derived.Test.YtnihacajjpcjeaaZTrieParts2
import Derived.Deep.Slices
import Derived.ChangeArms
import Derived.OpenShut
import Derived.SizedLaws
import Derived.KernelRfl
section
namespace Go.Proofs.Ytnihacajjpcjeaa
open Go.RowKit Go.Proofs.Ytnihacajjpcjeaa.P Go.Proofs.YtnihacajjpcjeaaW.PrintWords Go.Proofs.YtnihacajjpcjeaaW.PrintLast Go.Proofs.YtnihacajjpcjeaaW.PrintMore
set_option linter.unusedVariables false
set_option linter.unusedSimpArgs false

/-- what is done to one after the other, till one says no -/
def runS {σ : Type} (step : σ → S43 → σ × Bool) : σ → List S43 → σ × Bool
  | s, [] => (s, true)
  | s, x :: l => if (step s x).2 = true then runS step (step s x).1 l else ((step s x).1, false)
theorem runS_app {σ : Type} (step : σ → S43 → σ × Bool) : ∀ (a b : List S43) (s : σ), runS step s (a ++ b) = if (runS step s a).2 = true then runS step (runS step s a).1 b else runS step s a := by
  intro a
  induction a with
  | nil => intro b s; simp [runS]
  | cons x a ih =>
    intro b s
    simp only [List.cons_append, runS]
    by_cases h : (step s x).2 = true
    · simp only [h, if_true]; exact ih b _
    · simp [h]
theorem halves_is (π : Way) (h : π.length < 32) : addr_Halves.f (adrW π) (π.length : Int) = some (adrW (π ++ [false]), ((π.length + 1 : Nat) : Int), adrW (π ++ [true]), ((π.length + 1 : Nat) : Int), 0) := by
  have hp : (0 : Int) < 2 ^ (32 - π.length) := Int.pow_pos (by decide)
  have hlt := numW_lt π
  have ha0 : 0 ≤ adrW π := Int.mul_nonneg (by omega) (Int.le_of_lt hp)
  have ha1 : adrW π < 4294967296 := by
    unfold adrW
    have e : (4294967296 : Int) = 2 ^ π.length * 2 ^ (32 - π.length) := by rw [← Int.pow_add, show π.length + (32 - π.length) = 32 by omega]; rfl
    rw [e]
    refine Int.mul_lt_mul_of_pos_right ?_ hp
    have : ((2 ^ π.length : Nat) : Int) = 2 ^ π.length := by simp
    omega
  have hmod : adrW π % 2 ^ (32 - π.length) = 0 := by unfold adrW; exact Int.mul_emod_left _ _
  have hmay : addr_May.f (adrW π) (π.length : Int) = some true := by
    rw [may_is _ _ ⟨ha0, by omega⟩, (mayB_iff _ _).2 ⟨by omega, by omega, by
      unfold un; rw [show (32 - (π.length : Int)).toNat = 32 - π.length by omega]; exact hmod⟩]
  unfold addr_Halves.f addr_halves.f
  have e1 : wrap64 (31 - (π.length : Int)) = ((31 - π.length : Nat) : Int) := by rw [wrap64_in _ (by omega) (by omega)]; omega
  have e2 : wrap64 ((π.length : Int) + 1) = ((π.length + 1 : Nat) : Int) := by rw [wrap64_in _ (by omega) (by omega)]; omega
  have e3 : shl .u32 1 ((31 - π.length : Nat) : Int) = 2 ^ (31 - π.length) := by rw [shl_bit 1 _ (by omega) (.inr rfl), Int.one_mul]
  have e4 : Go.bits .or .u32 (adrW π) (2 ^ (31 - π.length)) = adrW (π ++ [true]) := by
    have := or_add (adrW π) 1 (31 - π.length) (by omega) ha0 ha1 (by rw [show 31 - π.length + 1 = 32 - π.length by omega]; exact hmod) (.inr rfl)
    rw [Int.one_mul] at this
    rw [this, adrW_snoc π true h]; simp
  have e5 : adrW (π ++ [false]) = adrW π := by rw [adrW_snoc π false h]; simp
  rw [hmay, Option.bind_some, if_pos rfl, if_neg (by omega), e1, if_pos (by omega), e2, e3, e4, e5]
  rfl
section
variable (fid : Nat) (cap : Array Value) {σ : Type} (step : σ → S43 → σ × Bool) (Inv : World → (Nat → Prop) → σ → Prop) (cnt : σ → Nat)
/-- what is asked of that which is done -/
structure Does : Prop where
  enters : ∀ (args : Array Value) (W : World), (callFunc fid args).run Try.prog W = .ok (.enter fid args) W
  read : ∀ w w' own s, Inv w own s → Below w.heap.size w w' → Inv w' own s
  lt : ∀ w own s, Inv w own s → ∀ b, own b → b < w.heap.size
  grow : ∀ s x, cnt (step s x).1 ≤ cnt s + 1
  does : ∀ w own s (π : Way) (v : Int), cnt s < 1000 → Inv w own s → Calls Try.prog fid (#[.agg #[.int .u32 (adrW π), .int .i64 (π.length : Int)], .int .i64 v] ++ cap) w fun e w' => ∃ own' : Nat → Prop, e = .returned (.bool (step s ⟨prefW π, v⟩).2) ∧ Inv w' own' (step s ⟨prefW π, v⟩).1 ∧ (∀ b, own' b → own b ∨ w.heap.size ≤ b) ∧ Kb own w w'
end
theorem run_cnt {σ : Type} {step : σ → S43 → σ × Bool} {cnt : σ → Nat} (hg : ∀ s x, cnt (step s x).1 ≤ cnt s + 1) : ∀ (l : List S43) (s : σ), cnt (runS step s l).1 ≤ cnt s + l.length := by
  intro l
  induction l with
  | nil => intro s; exact Nat.le_refl _
  | cons x l ih =>
    intro s
    simp only [runS, List.length_cons]
    have h1 := hg s x
    split
    · have h2 := ih (step s x).1; omega
    · show cnt (step s x).1 ≤ _; omega
theorem TrieAt.kb {V : Type} {K : TK V} {w w' : World} {bt : Nat} {own : Nat → Prop} {n : Int} {D : Way → Bool} {m : Way → Option V} {blk : Way → Nat} (h : TrieAt K w bt n D m blk) (hk : Kb own w w') (ho : ∀ π, D π = true → ¬ own (blk π)) (hb : ¬ own bt) : TrieAt K w' bt n D m blk :=
  ⟨h.nodes.keep (fun π hp => hk.block _ (h.nodes.lt hp) (ho π hp)), (hk.block _ (blk_lt h.root) hb).trans h.root, h.ne⟩

set_option maxHeartbeats 8000000 in
set_option maxRecDepth 100000 in
theorem walk_calls (fid : Nat) (cap : Array Value) {σ : Type} (step : σ → S43 → σ × Bool) (Inv : World → (Nat → Prop) → σ → Prop) (cnt : σ → Nat) (hdo : Does fid cap step Inv cnt)
    (bt : Nat) (n : Int) (D : Way → Bool) (m : Way → Option Int) (blk : Way → Nat) (l : List S43) (hR : Rel m l) (hG : ∀ π, D π = true → ∃ ρ, (m (π ++ ρ)).isSome = true) :
    ∀ (d : Nat) (π : Way), π.length + d = 33 → ∀ (w : World) (own : Nat → Prop) (s : σ), TrieAt kI w bt n D m blk → Inv w own s → (∀ π, D π = true → ¬ own (blk π)) → ¬ own bt → cnt s + (enumW m d π).length ≤ 1000 →
    Calls Try.prog 47 #[ptrT D blk π, .agg #[.int .u32 (adrW π), .int .i64 (π.length : Int)], .func (.func fid) #[] cap] w fun e w' => ∃ own' : Nat → Prop, e = .returned (.bool (runS step s (enumW m d π)).2) ∧ Inv w' own' (runS step s (enumW m d π)).1 ∧ (∀ b, own' b → own b ∨ w.heap.size ≤ b) ∧ Kb own w w' := by
  have HR := mkHid hR
  have HG := mkHid hG
  have HDO := mkHid hdo
  have hen := hdo.enters
  clear hR hG hdo
  intro d
  have hnil : ∀ (d : Nat) (π : Way), D π = false → ∀ (w : World) (own : Nat → Prop) (s : σ), TrieAt kI w bt n D m blk → Inv w own s →
      Calls Try.prog 47 #[ptrT D blk π, .agg #[.int .u32 (adrW π), .int .i64 (π.length : Int)], .func (.func fid) #[] cap] w fun e w' => ∃ own' : Nat → Prop, e = .returned (.bool (runS step s (enumW m d π)).2) ∧ Inv w' own' (runS step s (enumW m d π)).1 ∧ (∀ b, own' b → own b ∨ w.heap.size ≤ b) ∧ Kb own w w' := by
    intro d π hD w own s hT hI
    have he : enumW m d π = [] := by
      cases h : enumW m d π with
      | nil => rfl
      | cons x r =>
        obtain ⟨ρ, _, h2, _⟩ := (enum_mem m d π x).1 (by rw [h]; exact List.mem_cons_self)
        have := hT.nodes.ups ρ π (hT.nodes.sup _ (by rw [h2]; rfl))
        rw [hD] at this; cases this
    rw [he, ptrT_none hD]
    have HB0 : Hid (Below w.heap.size w (w.alloc (.cells #[.int .u32 (adrW π), .int .i64 (π.length : Int)] 34))) := Below.alloc (Below.refl _ w) (Nat.le_refl _) _
    have HI := mkHid hI
    clear hT hI
    go_enter Try.func47, Try.ntmps47
    go_wp2_with fail
    go_ret
    exact ⟨own, rfl, HDO.out.read _ _ _ _ HI.out HB0.out, fun b h => .inl h, Kb.of_below HB0.out⟩
  have HNIL := mkHid hnil
  clear hnil
  induction d with
  | zero =>
    intro π hπ w own s hT hI ho hb _
    have hD : D π = false := by
      cases h : D π with
      | false => rfl
      | true => exact absurd (D_len HR.out HG.out h) (by omega)
    exact HNIL.out 0 π hD w own s hT hI
  | succ d ih =>
    intro π hπ w own s hT hI ho hb hcn
    cases hD : D π with
    | false => exact HNIL.out (d + 1) π hD w own s hT hI
    | true =>
      rw [ptrT_some hD]
      have HT0 := mkHid hT
      have HCN := mkHid hcn
      clear hcn
      have HI0 := mkHid hI
      have hob : Hid (∀ π, D π = true → ¬ own (blk π)) := ho
      have hob1 : Hid (¬ own bt) := hb
      have hltw := mkHid (HDO.out.lt _ _ _ hI)
      have hob2 : Hid (¬ own w.heap.size) := fun h => absurd (hltw.out _ h) (by omega)
      have HB0 : Hid (Below w.heap.size w (w.alloc (.cells #[.int .u32 (adrW π), .int .i64 (π.length : Int)] 34))) := Below.alloc (Below.refl _ w) (Nat.le_refl _) _
      obtain ⟨W, hW⟩ : ∃ W, W = w.alloc (.cells #[.int .u32 (adrW π), .int .i64 (π.length : Int)] 34) := ⟨_, rfl⟩
      have p0 : W.cell? ⟨w.heap.size, 0, none⟩ = some (.int .u32 (adrW π)) := by rw [hW]; go_simp
      have p1 : W.cell? ⟨w.heap.size, 1, none⟩ = some (.int .i64 (π.length : Int)) := by rw [hW]; go_simp
      rw [← hW] at HB0
      have HTW := mkHid (HT0.out.below HB0.out)
      have HIW := mkHid (HDO.out.read _ _ _ _ HI0.out HB0.out)
      have hx2 := HTW.out.nodes.is hD
      have hx3 : W.cell? ⟨blk π, 3, none⟩ = some (.int .i64 ((m π).getD 0)) := HTW.out.nodes.val hD
      have IH := mkHid ih
      clear ih hT hI ho hb
      go_enter Try.func47, Try.ntmps47
      go_upto_region 3 with fail
      rw [← hW]
      clear hW
      cases hm : m π
      case' none =>
        rw [hm] at hx2 hx3
        replace hx2 : W.cell? ⟨blk π, 2, none⟩ = some (.bool false) := hx2
        replace hx3 : W.cell? ⟨blk π, 3, none⟩ = some (.int .i64 0) := hx3
        refine wp_region_held_drew (S := fun w' => w'.cell? ⟨blk π, 2, none⟩ = some (.bool false) ∧ w'.cell? ⟨blk π, 3, none⟩ = some (.int .i64 0) ∧ w'.cell? ⟨w.heap.size, 0, none⟩ = some (.int .u32 (adrW π)) ∧ w'.cell? ⟨w.heap.size, 1, none⟩ = some (.int .i64 (π.length : Int))) (by kernel_rfl) ⟨hx2, hx3, p0, p1⟩ (fun hHeld => ?_)
        refine wpAnyH_take (i := 0) (oi := _) (v := ?_) rfl (by kernel_rfl) (by kernel_rfl) (by kernel_rfl) (fun _ _ _ h => h) (Or.inl ⟨by first | (simp [Region.wanted, yielded]; done) | rfl, ?_⟩) (by assumption) ?_
        rotate_left
        · intro w hSw
          first | (go_simp; done) | (go_simp; with_reducible rfl)
        (try simp only [Act.put, List.getElem_toArray, List.getElem_cons_succ, List.getElem_cons_zero, List.setIfInBounds_toArray, List.set_cons_zero, List.set_cons_succ])
        refine wpAnyH_take (i := 1) (oi := _) (v := ?_) rfl (by kernel_rfl) (by kernel_rfl) (by kernel_rfl) (fun _ _ _ h => h) (Or.inl ⟨by first | (simp [Region.wanted, yielded]; done) | rfl, ?_⟩) (by assumption) ?_
        rotate_left
        · intro w hSw
          first | (go_simp; done) | (go_simp; with_reducible rfl)
        (try simp only [Act.put, List.getElem_toArray, List.getElem_cons_succ, List.getElem_cons_zero, List.setIfInBounds_toArray, List.set_cons_zero, List.set_cons_succ])
        refine wpAnyH_take (i := 2) (oi := _) (v := ?_) rfl (by kernel_rfl) (by kernel_rfl) (by kernel_rfl) (fun _ _ _ h => h) (Or.inl ⟨by first | (simp [Region.wanted, yielded]; done) | rfl, ?_⟩) (by assumption) ?_
        rotate_left
        · intro w hSw
          first | (go_simp; done) | (go_simp; with_reducible rfl)
        (try simp only [Act.put, List.getElem_toArray, List.getElem_cons_succ, List.getElem_cons_zero, List.setIfInBounds_toArray, List.set_cons_zero, List.set_cons_succ])
        refine wpAnyH_take (i := 3) (oi := _) (v := ?_) rfl (by kernel_rfl) (by kernel_rfl) (by kernel_rfl) (fun _ _ _ h => h) (Or.inl ⟨by first | (simp [Region.wanted, yielded]; done) | rfl, ?_⟩) (by assumption) ?_
        rotate_left
        · intro w hSw
          first | (go_simp; done) | (go_simp; with_reducible rfl)
        (try simp only [Act.put, List.getElem_toArray, List.getElem_cons_succ, List.getElem_cons_zero, List.setIfInBounds_toArray, List.set_cons_zero, List.set_cons_succ])
        refine wpAnyH_take (i := 4) (oi := _) (v := ?_) rfl (by kernel_rfl) (by kernel_rfl) (by kernel_rfl) (fun _ _ _ h => h) (Or.inl ⟨by first | (simp [Region.wanted, yielded]; done) | rfl, ?_⟩) (by assumption) ?_
        rotate_left
        · intro w hSw
          first | (go_simp; done) | (go_simp; with_reducible rfl)
        (try simp only [Act.put, List.getElem_toArray, List.getElem_cons_succ, List.getElem_cons_zero, List.setIfInBounds_toArray, List.set_cons_zero, List.set_cons_succ])
        refine wpAnyH_take (i := 5) (oi := _) (v := undef) rfl (by kernel_rfl) (by kernel_rfl) (by kernel_rfl) (fun _ _ _ h => h) (Or.inr ⟨by simp [Region.wanted, yielded], rfl⟩) (by assumption) ?_
        (try simp only [Act.put, List.getElem_toArray, List.getElem_cons_succ, List.getElem_cons_zero, List.setIfInBounds_toArray, List.set_cons_zero, List.set_cons_succ])
        refine wpAnyH_take (i := 6) (oi := _) (v := undef) rfl (by kernel_rfl) (by kernel_rfl) (by kernel_rfl) (fun _ _ _ h => h) (Or.inr ⟨by simp [Region.wanted, yielded], rfl⟩) (by assumption) ?_
        (try simp only [Act.put, List.getElem_toArray, List.getElem_cons_succ, List.getElem_cons_zero, List.setIfInBounds_toArray, List.set_cons_zero, List.set_cons_succ])
        refine wpAnyH_take (i := 7) (oi := _) (v := undef) rfl (by kernel_rfl) (by kernel_rfl) (by kernel_rfl) (fun _ _ _ h => h) (Or.inr ⟨by simp [Region.wanted, yielded], rfl⟩) (by assumption) ?_
        (try simp only [Act.put, List.getElem_toArray, List.getElem_cons_succ, List.getElem_cons_zero, List.setIfInBounds_toArray, List.set_cons_zero, List.set_cons_succ])
        refine wpAnyH_take (i := 8) (oi := _) (v := undef) rfl (by kernel_rfl) (by kernel_rfl) (by kernel_rfl) (fun _ _ _ h => h) (Or.inr ⟨by simp [Region.wanted, yielded], rfl⟩) (by assumption) ?_
        (try simp only [Act.put, List.getElem_toArray, List.getElem_cons_succ, List.getElem_cons_zero, List.setIfInBounds_toArray, List.set_cons_zero, List.set_cons_succ])
        refine wpAnyH_take (i := 9) (oi := _) (v := undef) rfl (by kernel_rfl) (by kernel_rfl) (by kernel_rfl) (fun _ _ _ h => h) (Or.inr ⟨by simp [Region.wanted, yielded], rfl⟩) (by assumption) ?_
        (try simp only [Act.put, List.getElem_toArray, List.getElem_cons_succ, List.getElem_cons_zero, List.setIfInBounds_toArray, List.set_cons_zero, List.set_cons_succ])
        refine wpAnyH_take (i := 10) (oi := _) (v := undef) rfl (by kernel_rfl) (by kernel_rfl) (by kernel_rfl) (fun _ _ _ h => h) (Or.inr ⟨by simp [Region.wanted, yielded], rfl⟩) (by assumption) ?_
        (try simp only [Act.put, List.getElem_toArray, List.getElem_cons_succ, List.getElem_cons_zero, List.setIfInBounds_toArray, List.set_cons_zero, List.set_cons_succ])
        refine wpAnyH_take (i := 11) (oi := _) (v := undef) rfl (by kernel_rfl) (by kernel_rfl) (by kernel_rfl) (fun _ _ _ h => h) (Or.inr ⟨by simp [Region.wanted, yielded], rfl⟩) (by assumption) ?_
        (try simp only [Act.put, List.getElem_toArray, List.getElem_cons_succ, List.getElem_cons_zero, List.setIfInBounds_toArray, List.set_cons_zero, List.set_cons_succ])
        refine wpAnyH_take (i := 12) (oi := _) (v := undef) rfl (by kernel_rfl) (by kernel_rfl) (by kernel_rfl) (fun _ _ _ h => h) (Or.inr ⟨by simp [Region.wanted, yielded], rfl⟩) (by assumption) ?_
        (try simp only [Act.put, List.getElem_toArray, List.getElem_cons_succ, List.getElem_cons_zero, List.setIfInBounds_toArray, List.set_cons_zero, List.set_cons_succ])
        refine wpAnyH_take (i := 13) (oi := _) (v := ?_) rfl (by kernel_rfl) (by kernel_rfl) (by kernel_rfl) (fun _ _ _ h => h) (Or.inl ⟨by first | (simp [Region.wanted, yielded]; done) | rfl, ?_⟩) (by assumption) ?_
        rotate_left
        · intro w hSw
          first | (go_simp; done) | (go_simp; with_reducible rfl)
        (try simp only [Act.put, List.getElem_toArray, List.getElem_cons_succ, List.getElem_cons_zero, List.setIfInBounds_toArray, List.set_cons_zero, List.set_cons_succ])
        refine wpAnyH_done (by kernel_rfl) ?_ _
        go_upto_region 5 with fail
        obtain ⟨w5, hw5⟩ : ∃ w5, w5 = W.drew := ⟨_, rfl⟩
        obtain ⟨own1, hown1⟩ : ∃ own1, own1 = own := ⟨_, rfl⟩
        obtain ⟨s1, hs1⟩ : ∃ s1, s1 = s := ⟨_, rfl⟩
        have HI1 : Hid (Inv w5 own1 s1) := by rw [hw5, hown1, hs1]; exact HDO.out.read _ _ _ _ HIW.out (below_drew (Below.refl _ W))
        have HK1 : Hid (Kb own w w5) := by rw [hw5]; exact Kb.of_below (below_drew HB0.out)
        have HO1 : Hid (∀ b, own1 b → own b ∨ w.heap.size < b) := by rw [hown1]; exact fun b h => .inl h
        have q0 : w5.cell? ⟨w.heap.size, 0, none⟩ = some (.int .u32 (adrW π)) := by rw [hw5]; exact p0
        have q1 : w5.cell? ⟨w.heap.size, 1, none⟩ = some (.int .i64 (π.length : Int)) := by rw [hw5]; exact p1
        have HRUN : Hid (runS step s (enumW m (d + 1) π) = runS step s1 (enumW m d (π ++ [false]) ++ enumW m d (π ++ [true]))) := by unfold Hid; rw [hs1]; simp only [enumW, hm, List.nil_append]
        have HC1 : Hid (cnt s1 + (enumW m d (π ++ [false])).length + (enumW m d (π ++ [true])).length ≤ 1000) := by have := HCN.out; simp only [enumW, hm, List.length_append, List.length_nil] at this; unfold Hid; rw [hs1]; omega
        rw [← hw5]
        clear hw5 hown1 hs1 p0 p1 hx2 hx3 HIW HTW HB0
      case' some v =>
        rw [hm] at hx2 hx3
        replace hx2 : W.cell? ⟨blk π, 2, none⟩ = some (.bool true) := hx2
        replace hx3 : W.cell? ⟨blk π, 3, none⟩ = some (.int .i64 v) := hx3
        have hcall := mkHid (HDO.out.does W.drew own s π v (by have := HCN.out; simp only [enumW, hm, List.length_append, List.length_singleton] at this; omega) (HDO.out.read _ _ _ _ HIW.out (below_drew (Below.refl _ W))))
        refine wp_region_held_drew (S := fun w' => w'.cell? ⟨blk π, 2, none⟩ = some (.bool true) ∧ w'.cell? ⟨blk π, 3, none⟩ = some (.int .i64 v) ∧ w'.cell? ⟨w.heap.size, 0, none⟩ = some (.int .u32 (adrW π)) ∧ w'.cell? ⟨w.heap.size, 1, none⟩ = some (.int .i64 (π.length : Int))) (by kernel_rfl) ⟨hx2, hx3, p0, p1⟩ (fun hHeld => ?_)
        refine wpAnyH_take (i := 0) (oi := _) (v := ?_) rfl (by kernel_rfl) (by kernel_rfl) (by kernel_rfl) (fun _ _ _ h => h) (Or.inl ⟨by first | (simp [Region.wanted, yielded]; done) | rfl, ?_⟩) (by assumption) ?_
        rotate_left
        · intro w hSw
          first | (go_simp; done) | (go_simp; with_reducible rfl)
        (try simp only [Act.put, List.getElem_toArray, List.getElem_cons_succ, List.getElem_cons_zero, List.setIfInBounds_toArray, List.set_cons_zero, List.set_cons_succ])
        refine wpAnyH_take (i := 1) (oi := _) (v := ?_) rfl (by kernel_rfl) (by kernel_rfl) (by kernel_rfl) (fun _ _ _ h => h) (Or.inl ⟨by first | (simp [Region.wanted, yielded]; done) | rfl, ?_⟩) (by assumption) ?_
        rotate_left
        · intro w hSw
          first | (go_simp; done) | (go_simp; with_reducible rfl)
        (try simp only [Act.put, List.getElem_toArray, List.getElem_cons_succ, List.getElem_cons_zero, List.setIfInBounds_toArray, List.set_cons_zero, List.set_cons_succ])
        refine wpAnyH_take (i := 2) (oi := _) (v := ?_) rfl (by kernel_rfl) (by kernel_rfl) (by kernel_rfl) (fun _ _ _ h => h) (Or.inl ⟨by first | (simp [Region.wanted, yielded]; done) | rfl, ?_⟩) (by assumption) ?_
        rotate_left
        · intro w hSw
          first | (go_simp; done) | (go_simp; with_reducible rfl)
        (try simp only [Act.put, List.getElem_toArray, List.getElem_cons_succ, List.getElem_cons_zero, List.setIfInBounds_toArray, List.set_cons_zero, List.set_cons_succ])
        refine wpAnyH_take (i := 3) (oi := _) (v := ?_) rfl (by kernel_rfl) (by kernel_rfl) (by kernel_rfl) (fun _ _ _ h => h) (Or.inl ⟨by first | (simp [Region.wanted, yielded]; done) | rfl, ?_⟩) (by assumption) ?_
        rotate_left
        · intro w hSw
          first | (go_simp; done) | (go_simp; with_reducible rfl)
        (try simp only [Act.put, List.getElem_toArray, List.getElem_cons_succ, List.getElem_cons_zero, List.setIfInBounds_toArray, List.set_cons_zero, List.set_cons_succ])
        refine wpAnyH_take (i := 4) (oi := _) (v := ?_) rfl (by kernel_rfl) (by kernel_rfl) (by kernel_rfl) (fun _ _ _ h => h) (Or.inl ⟨by first | (simp [Region.wanted, yielded]; done) | rfl, ?_⟩) (by assumption) ?_
        rotate_left
        · intro w hSw
          first | (go_simp; done) | (go_simp; with_reducible rfl)
        (try simp only [Act.put, List.getElem_toArray, List.getElem_cons_succ, List.getElem_cons_zero, List.setIfInBounds_toArray, List.set_cons_zero, List.set_cons_succ])
        refine wpAnyH_take (i := 5) (oi := _) (v := ?_) rfl (by kernel_rfl) (by kernel_rfl) (by kernel_rfl) (fun _ _ _ h => h) (Or.inl ⟨by first | (simp [Region.wanted, yielded]; done) | rfl, ?_⟩) (by assumption) ?_
        rotate_left
        · intro w hSw
          first | (go_simp; done) | (go_simp; with_reducible rfl)
        (try simp only [Act.put, List.getElem_toArray, List.getElem_cons_succ, List.getElem_cons_zero, List.setIfInBounds_toArray, List.set_cons_zero, List.set_cons_succ])
        refine wpAnyH_take (i := 6) (oi := _) (v := ?_) rfl (by kernel_rfl) (by kernel_rfl) (by kernel_rfl) (fun _ _ _ h => h) (Or.inl ⟨by first | (simp [Region.wanted, yielded]; done) | rfl, ?_⟩) (by assumption) ?_
        rotate_left
        · intro w hSw
          first | (go_simp; done) | (go_simp; with_reducible rfl)
        (try simp only [Act.put, List.getElem_toArray, List.getElem_cons_succ, List.getElem_cons_zero, List.setIfInBounds_toArray, List.set_cons_zero, List.set_cons_succ])
        refine wpAnyH_take (i := 7) (oi := _) (v := ?_) rfl (by kernel_rfl) (by kernel_rfl) (by kernel_rfl) (fun _ _ _ h => h) (Or.inl ⟨by first | (simp [Region.wanted, yielded]; done) | rfl, ?_⟩) (by assumption) ?_
        rotate_left
        · intro w hSw
          first | (go_simp; done) | (go_simp; with_reducible rfl)
        (try simp only [Act.put, List.getElem_toArray, List.getElem_cons_succ, List.getElem_cons_zero, List.setIfInBounds_toArray, List.set_cons_zero, List.set_cons_succ])
        refine wpAnyH_take (i := 8) (oi := _) (v := ?_) rfl (by kernel_rfl) (by kernel_rfl) (by kernel_rfl) (fun _ _ _ h => h) (Or.inl ⟨by first | (simp [Region.wanted, yielded]; done) | rfl, ?_⟩) (by assumption) ?_
        rotate_left
        · intro w hSw
          first | (go_simp; done) | (go_simp; with_reducible rfl)
        (try simp only [Act.put, List.getElem_toArray, List.getElem_cons_succ, List.getElem_cons_zero, List.setIfInBounds_toArray, List.set_cons_zero, List.set_cons_succ])
        refine wpAnyH_take (i := 9) (oi := _) (v := ?_) rfl (by kernel_rfl) (by kernel_rfl) (by kernel_rfl) (fun _ _ _ h => h) (Or.inl ⟨by first | (simp [Region.wanted, yielded]; done) | rfl, ?_⟩) (by assumption) ?_
        rotate_left
        · intro w hSw
          first | (go_simp; done) | (go_simp; with_reducible rfl)
        (try simp only [Act.put, List.getElem_toArray, List.getElem_cons_succ, List.getElem_cons_zero, List.setIfInBounds_toArray, List.set_cons_zero, List.set_cons_succ])
        refine wpAnyH_take (i := 10) (oi := _) (v := ?_) rfl (by kernel_rfl) (by kernel_rfl) (by kernel_rfl) (fun _ _ _ h => h) (Or.inl ⟨by first | (simp [Region.wanted, yielded]; done) | rfl, ?_⟩) (by assumption) ?_
        rotate_left
        · intro w hSw
          first | (go_simp; done) | (go_simp; with_reducible rfl)
        (try simp only [Act.put, List.getElem_toArray, List.getElem_cons_succ, List.getElem_cons_zero, List.setIfInBounds_toArray, List.set_cons_zero, List.set_cons_succ])
        refine wpAnyH_ready (rs := [11]) (by kernel_rfl) (by simp) (AllReadyH.cons (o := _) rfl (fun K_ hK_ => ?_) AllReadyH.nil)
        go_simp
        (refine hcall.out.mono ?_; rintro e w5 ⟨own1, rfl, hI1, ho1, hk1⟩)
        refine hK_.out _ _ ⟨hk1.cell (show World.cell? _ _ = some (.bool true) from hx2) (hob.out _ hD), hk1.cell (show World.cell? _ _ = some (.int .i64 v) from hx3) (hob.out _ hD), hk1.cell (show World.cell? _ _ = some (.int .u32 (adrW π)) from p0) hob2.out, hk1.cell (show World.cell? _ _ = some (.int .i64 (π.length : Int)) from p1) hob2.out⟩ (fun hHeld => ?_)
        clear hK_ K_
        (try simp only [Act.put, List.getElem_toArray, List.getElem_cons_succ, List.getElem_cons_zero, List.setIfInBounds_toArray, List.set_cons_zero, List.set_cons_succ])
        refine wpAnyH_take (i := 12) (oi := _) (v := ?_) rfl (by kernel_rfl) (by kernel_rfl) (by kernel_rfl) (fun _ _ _ h => h) (Or.inl ⟨by first | (simp [Region.wanted, yielded]; done) | rfl, ?_⟩) (by assumption) ?_
        rotate_left
        · intro w hSw
          first | (go_simp; done) | (go_simp; with_reducible rfl)
        (try simp only [Act.put, List.getElem_toArray, List.getElem_cons_succ, List.getElem_cons_zero, List.setIfInBounds_toArray, List.set_cons_zero, List.set_cons_succ])
        refine wpAnyH_take (i := 13) (oi := _) (v := ?_) rfl (by kernel_rfl) (by kernel_rfl) (by kernel_rfl) (fun _ _ _ h => h) (Or.inl ⟨by first | (simp [Region.wanted, yielded]; done) | rfl, ?_⟩) (by assumption) ?_
        rotate_left
        · intro w hSw
          first | (go_simp; done) | (go_simp; with_reducible rfl)
        (try simp only [Act.put, List.getElem_toArray, List.getElem_cons_succ, List.getElem_cons_zero, List.setIfInBounds_toArray, List.set_cons_zero, List.set_cons_succ])
        refine wpAnyH_done (by kernel_rfl) ?_ _
        have hgr : Hid (∀ b, own1 b → own b ∨ w.heap.size < b) := fun b h => by
          rcases ho1 b h with h1 | h1
          · exact .inl h1
          · have h2 : W.heap.size ≤ b := h1
            have h3 := World.block_lt_of_cell? _ _ p0
            exact .inr (by show w.heap.size < b; simp only at h3; omega)
        have HK1 : Hid (Kb own w w5) := (Kb.of_below (below_drew HB0.out)).trans hk1
        have HI1a := mkHid hI1
        have q0 := hk1.cell (show World.cell? W.drew _ = some (.int .u32 (adrW π)) from p0) hob2.out
        have q1 := hk1.cell (show World.cell? W.drew _ = some (.int .i64 (π.length : Int)) from p1) hob2.out
        cases hbv : (step s ⟨prefW π, v⟩).2
        case' false =>
          have hrun : Hid (runS step s (enumW m (d + 1) π) = ((step s ⟨prefW π, v⟩).1, false)) := by unfold Hid; simp only [enumW, hm, List.cons_append, runS]; rw [hbv]; rfl
          clear hI1 ho1 hk1 p0 p1 hx2 hx3 HIW HTW HB0 hcall q0 q1
          go_wp2_with fail
          go_ret
          exact ⟨own1, by rw [hrun.out]; rfl, by rw [hrun.out]; exact HI1a.out, fun b h => (hgr.out b h).imp id Nat.le_of_lt, HK1.out⟩
        case' true =>
          obtain ⟨s1, hs1⟩ : ∃ s1, s1 = (step s ⟨prefW π, v⟩).1 := ⟨_, rfl⟩
          have HI1 : Hid (Inv w5 own1 s1) := by rw [hs1]; exact hI1
          have HO1 : Hid (∀ b, own1 b → own b ∨ w.heap.size < b) := hgr.out
          have HRUN : Hid (runS step s (enumW m (d + 1) π) = runS step s1 (enumW m d (π ++ [false]) ++ enumW m d (π ++ [true]))) := by unfold Hid; rw [hs1]; simp only [enumW, hm, List.cons_append, List.nil_append, runS]; rw [if_pos hbv]
          have HC1 : Hid (cnt s1 + (enumW m d (π ++ [false])).length + (enumW m d (π ++ [true])).length ≤ 1000) := by have := HCN.out; have g := HDO.out.grow s ⟨prefW π, v⟩; simp only [enumW, hm, List.length_append, List.length_singleton] at this; unfold Hid; rw [hs1]; omega
          clear hI1 ho1 hk1 p0 p1 hx2 hx3 HIW HTW HB0 hcall hgr HI1a hs1 hbv
          go_upto_region 5 with fail
      all_goals
        have HT5 := mkHid (HT0.out.kb HK1.out hob.out hob1.out)
        have hlt5 := mkHid (HDO.out.lt _ _ _ HI1.out)
        by_cases h32 : π.length = 32
        · have e32 : ((π.length : Int) == 32) = true := by rw [h32]; rfl
          have hd0 : d = 0 := by omega
          subst hd0
          go_wp2_with fail
          go_ret
          exact ⟨own1, by rw [HRUN.out]; rfl, by rw [HRUN.out]; exact HI1.out, fun b h => (HO1.out b h).imp id Nat.le_of_lt, HK1.out⟩
        · have e32 : ((π.length : Int) == 32) = false := beq_eq_false_iff_ne.mpr (by omega)
          have hlen33 := D_len HR.out HG.out hD
          obtain ⟨N1, hN1⟩ : ∃ N1 : Int, N1 = ((π.length + 1 : Nat) : Int) := ⟨_, rfl⟩
          have hh := halves_is π (by omega)
          rw [← hN1] at hh
          have HH := mkHid hh
          have HN1 := mkHid hN1
          clear hh hN1
          go_wp2_with fail
          refine (addr_Halves.calls (adrW π) (π.length : Int) _ _ _ _ _ _ HH.out).mono ?_
          rintro e w6 ⟨rfl, hb6⟩
          have HB6 := mkHid hb6
          clear hb6 q0 q1 HH
          go_upto_region 8 with fail
          obtain ⟨S6, hS6⟩ : ∃ S6, S6 = w6.heap.size := ⟨_, rfl⟩
          obtain ⟨S7, hS7⟩ : ∃ S7, S7 = S6 + 1 := ⟨_, rfl⟩
          obtain ⟨W7, hW7⟩ : ∃ W7, W7 = (w6.alloc (.cells #[.int .u32 (adrW (π ++ [false])), .int .i64 N1] 34)).alloc (.cells #[.int .u32 (adrW (π ++ [true])), .int .i64 N1] 34) := ⟨_, rfl⟩
          have HB7 : Hid (Below w5.heap.size w5 W7) := by rw [hW7]; exact below_step HB6.out (((Below.refl w6.heap.size w6).alloc (Nat.le_refl _) _).alloc (by simp) _)
          have r6 : W7.heap[S6]? = some (.cells #[.int .u32 (adrW (π ++ [false])), .int .i64 N1] 34 (0, 0)) := by rw [hW7, hS6]; exact blk_alloc (heap_alloc_new w6 _) _
          have r7 : W7.heap[S7]? = some (.cells #[.int .u32 (adrW (π ++ [true])), .int .i64 N1] 34 (0, 0)) := by
            rw [hW7, hS7, hS6]
            have := heap_alloc_new (w6.alloc (.cells #[.int .u32 (adrW (π ++ [false])), .int .i64 N1] 34)) (.cells #[.int .u32 (adrW (π ++ [true])), .int .i64 N1] 34)
            rw [World.size_alloc] at this
            exact this
          have hsl : Hid (S7 = S6 + 1 ∧ w5.heap.size ≤ S6) := ⟨hS7, by rw [hS6]; exact HB6.out.size⟩
          rw [← hW7, ← hS6, ← hS7]
          clear hW7 hS6 hS7 HB6
          have HT7 := mkHid (HT5.out.below HB7.out)
          have HI7 := mkHid (HDO.out.read _ _ _ _ HI1.out HB7.out)
          have z0 : W7.cell? ⟨blk π, 0, none⟩ = some (ptrT D blk (π ++ [false])) := HT7.out.nodes.kid hD false
          have z1 : W7.cell? ⟨blk π, 1, none⟩ = some (ptrT D blk (π ++ [true])) := HT7.out.nodes.kid hD true
          have z2 : W7.cell? ⟨S6, 0, none⟩ = some (.int .u32 (adrW (π ++ [false]))) := blk_cell r6 0
          have z3 : W7.cell? ⟨S6, 1, none⟩ = some (.int .i64 N1) := blk_cell r6 1
          have z4 : W7.cell? ⟨S7, 0, none⟩ = some (.int .u32 (adrW (π ++ [true]))) := blk_cell r7 0
          have z5 : W7.cell? ⟨S7, 1, none⟩ = some (.int .i64 N1) := blk_cell r7 1
          have hS7W : S7 < W7.heap.size := blk_lt r7
          have hoD1 : Hid (∀ ρ, D ρ = true → ¬ own1 (blk ρ)) := fun ρ hρ h => by
            rcases HO1.out _ h with h1 | h1
            · exact hob.out ρ hρ h1
            · have := HT0.out.nodes.lt hρ; omega
          have hoB1 : Hid (¬ own1 bt) := fun h => by
            rcases HO1.out _ h with h1 | h1
            · exact hob1.out h1
            · have := blk_lt HT0.out.root; omega
          have hnA : Hid (∀ b, (b = blk π ∨ b = S6 ∨ b = S7) → ¬ own1 b) := fun b hb h => by
            have hl := hlt5.out b h
            have hs := hsl.out
            rcases hb with rfl | rfl | rfl
            · exact hoD1.out π hD h
            · omega
            · omega
          have hnC : Hid (∀ own2 : Nat → Prop, (∀ b, own2 b → own1 b ∨ W7.drew.heap.size ≤ b) → ∀ b, (b = blk π ∨ b = S6 ∨ b = S7) → ¬ own2 b) := fun own2 h2 b hb h => by
            rcases h2 b h with h1 | h1
            · exact hnA.out b hb h1
            · have h3 : W7.heap.size ≤ b := h1
              rcases hb with rfl | rfl | rfl
              · have := HT7.out.nodes.lt hD; omega
              · have := hsl.out; omega
              · omega
          have hlF : ∀ b : Bool, ((π ++ [b]).length : Int) = N1 := fun b => by rw [HN1.out, List.length_append]; rfl
          have hcallA : Hid (Calls Try.prog 47 #[ptrT D blk (π ++ [false]), .agg #[.int .u32 (adrW (π ++ [false])), .int .i64 N1], .func (.func fid) #[] cap] W7.drew fun e w' => ∃ own' : Nat → Prop, e = .returned (.bool (runS step s1 (enumW m d (π ++ [false]))).2) ∧ Inv w' own' (runS step s1 (enumW m d (π ++ [false]))).1 ∧ (∀ b, own' b → own1 b ∨ W7.drew.heap.size ≤ b) ∧ Kb own1 W7.drew w') := by
            have := IH.out (π ++ [false]) (by rw [List.length_append]; simp; omega) W7.drew own1 s1 HT7.out.drew (HDO.out.read _ _ _ _ HI7.out (below_drew (Below.refl _ W7))) hoD1.out hoB1.out (by have := HC1.out; omega)
            rw [hlF] at this
            exact this
          have hcallB : Hid (∀ (w8 : World) (own2 : Nat → Prop), Inv w8 own2 (runS step s1 (enumW m d (π ++ [false]))).1 → (∀ b, own2 b → own1 b ∨ W7.drew.heap.size ≤ b) → Kb own1 W7.drew w8 → Calls Try.prog 47 #[ptrT D blk (π ++ [true]), .agg #[.int .u32 (adrW (π ++ [true])), .int .i64 N1], .func (.func fid) #[] cap] w8 fun e w' => ∃ own' : Nat → Prop, e = .returned (.bool (runS step (runS step s1 (enumW m d (π ++ [false]))).1 (enumW m d (π ++ [true]))).2) ∧ Inv w' own' (runS step (runS step s1 (enumW m d (π ++ [false]))).1 (enumW m d (π ++ [true]))).1 ∧ (∀ b, own' b → own2 b ∨ w8.heap.size ≤ b) ∧ Kb own2 w8 w') := fun w8 own2 hi ho hk => by
            have hoD2 : ∀ ρ, D ρ = true → ¬ own2 (blk ρ) := fun ρ hρ h => by
              rcases ho _ h with h1 | h1
              · exact hoD1.out ρ hρ h1
              · have h3 : W7.heap.size ≤ blk ρ := h1
                have := HT7.out.nodes.lt hρ; omega
            have hoB2 : ¬ own2 bt := fun h => by
              rcases ho _ h with h1 | h1
              · exact hoB1.out h1
              · have h3 : W7.heap.size ≤ bt := h1
                have := blk_lt HT7.out.root; omega
            have := IH.out (π ++ [true]) (by rw [List.length_append]; simp; omega) w8 own2 _ (HT7.out.drew.kb hk hoD1.out hoB1.out) hi hoD2 hoB2 (by have g := run_cnt HDO.out.grow (enumW m d (π ++ [false])) s1; have := HC1.out; omega)
            rw [hlF] at this
            exact this
          have HW7 : Hid (w5.heap.size ≤ W7.heap.size) := HB7.out.size
          have HK7 : Hid (Kb own w W7.drew) := (HK1.out.step HB7.out).drewN 1
          clear r6 r7 hlF HT5 hlt5 HI7 hoD1 hoB1 hS7W HI1
          have HRA : Hid (runS step s (enumW m (d + 1) π) = if (runS step s1 (enumW m d (π ++ [false]))).2 = true then runS step (runS step s1 (enumW m d (π ++ [false]))).1 (enumW m d (π ++ [true])) else runS step s1 (enumW m d (π ++ [false]))) := by unfold Hid; rw [HRUN.out, runS_app]
          have HGA : Hid (∀ (own2 : Nat → Prop), (∀ b, own2 b → own1 b ∨ W7.drew.heap.size ≤ b) → ∀ b, own2 b → own b ∨ w.heap.size ≤ b) := fun own2 h2 b hb => by
            rcases h2 b hb with h | h
            · exact (HO1.out b h).imp id Nat.le_of_lt
            · have h3 : W7.heap.size ≤ b := h
              have := HK1.out.size; have := HW7.out; exact .inr (by omega)
          have HKA : Hid (∀ (own2 : Nat → Prop) (w8 : World), Kb own1 W7.drew w8 → Kb own w w8) := fun own2 w8 hk => HK7.out.trans' hk (fun i h => (HO1.out i h).imp id Nat.le_of_lt)
          clear HRUN
          cases hb0 : (runS step s1 (enumW m d (π ++ [false]))).2 with
          | false =>
            rw [hb0] at hcallA
            refine wp_region_held_drew (S := fun w' => w'.cell? ⟨blk π, 0, none⟩ = some (ptrT D blk (π ++ [false])) ∧ w'.cell? ⟨blk π, 1, none⟩ = some (ptrT D blk (π ++ [true])) ∧ w'.cell? ⟨S6, 0, none⟩ = some (.int .u32 (adrW (π ++ [false]))) ∧ w'.cell? ⟨S6, 1, none⟩ = some (.int .i64 N1) ∧ w'.cell? ⟨S7, 0, none⟩ = some (.int .u32 (adrW (π ++ [true]))) ∧ w'.cell? ⟨S7, 1, none⟩ = some (.int .i64 N1)) (by kernel_rfl) ⟨z0, z1, z2, z3, z4, z5⟩ (fun hHeld => ?_)
            refine wpAnyH_take (i := 0) (oi := _) (v := ?_) rfl (by kernel_rfl) (by kernel_rfl) (by kernel_rfl) (fun _ _ _ h => h) (Or.inl ⟨by first | (simp [Region.wanted, yielded]; done) | rfl, ?_⟩) (by assumption) ?_
            rotate_left
            · intro w hSw
              first | (go_simp; done) | (go_simp; with_reducible rfl)
            (try simp only [Act.put, List.getElem_toArray, List.getElem_cons_succ, List.getElem_cons_zero, List.setIfInBounds_toArray, List.set_cons_zero, List.set_cons_succ])
            refine wpAnyH_take (i := 1) (oi := _) (v := ?_) rfl (by kernel_rfl) (by kernel_rfl) (by kernel_rfl) (fun _ _ _ h => h) (Or.inl ⟨by first | (simp [Region.wanted, yielded]; done) | rfl, ?_⟩) (by assumption) ?_
            rotate_left
            · intro w hSw
              first | (go_simp; done) | (go_simp; with_reducible rfl)
            (try simp only [Act.put, List.getElem_toArray, List.getElem_cons_succ, List.getElem_cons_zero, List.setIfInBounds_toArray, List.set_cons_zero, List.set_cons_succ])
            refine wpAnyH_take (i := 2) (oi := _) (v := ?_) rfl (by kernel_rfl) (by kernel_rfl) (by kernel_rfl) (fun _ _ _ h => h) (Or.inl ⟨by first | (simp [Region.wanted, yielded]; done) | rfl, ?_⟩) (by assumption) ?_
            rotate_left
            · intro w hSw
              first | (go_simp; done) | (go_simp; with_reducible rfl)
            (try simp only [Act.put, List.getElem_toArray, List.getElem_cons_succ, List.getElem_cons_zero, List.setIfInBounds_toArray, List.set_cons_zero, List.set_cons_succ])
            refine wpAnyH_take (i := 3) (oi := _) (v := ?_) rfl (by kernel_rfl) (by kernel_rfl) (by kernel_rfl) (fun _ _ _ h => h) (Or.inl ⟨by first | (simp [Region.wanted, yielded]; done) | rfl, ?_⟩) (by assumption) ?_
            rotate_left
            · intro w hSw
              first | (go_simp; done) | (go_simp; with_reducible rfl)
            (try simp only [Act.put, List.getElem_toArray, List.getElem_cons_succ, List.getElem_cons_zero, List.setIfInBounds_toArray, List.set_cons_zero, List.set_cons_succ])
            refine wpAnyH_take (i := 4) (oi := _) (v := ?_) rfl (by kernel_rfl) (by kernel_rfl) (by kernel_rfl) (fun _ _ _ h => h) (Or.inl ⟨by first | (simp [Region.wanted, yielded]; done) | rfl, ?_⟩) (by assumption) ?_
            rotate_left
            · intro w hSw
              first | (go_simp; done) | (go_simp; with_reducible rfl)
            (try simp only [Act.put, List.getElem_toArray, List.getElem_cons_succ, List.getElem_cons_zero, List.setIfInBounds_toArray, List.set_cons_zero, List.set_cons_succ])
            refine wpAnyH_take (i := 5) (oi := _) (v := ?_) rfl (by kernel_rfl) (by kernel_rfl) (by kernel_rfl) (fun _ _ _ h => h) (Or.inl ⟨by first | (simp [Region.wanted, yielded]; done) | rfl, ?_⟩) (by assumption) ?_
            rotate_left
            · intro w hSw
              first | (go_simp; done) | (go_simp; with_reducible rfl)
            (try simp only [Act.put, List.getElem_toArray, List.getElem_cons_succ, List.getElem_cons_zero, List.setIfInBounds_toArray, List.set_cons_zero, List.set_cons_succ])
            refine wpAnyH_take (i := 6) (oi := _) (v := ?_) rfl (by kernel_rfl) (by kernel_rfl) (by kernel_rfl) (fun _ _ _ h => h) (Or.inl ⟨by first | (simp [Region.wanted, yielded]; done) | rfl, ?_⟩) (by assumption) ?_
            rotate_left
            · intro w hSw
              first | (go_simp; done) | (go_simp; with_reducible rfl)
            (try simp only [Act.put, List.getElem_toArray, List.getElem_cons_succ, List.getElem_cons_zero, List.setIfInBounds_toArray, List.set_cons_zero, List.set_cons_succ])
            refine wpAnyH_ready (rs := [7]) (by kernel_rfl) (by simp) (AllReadyH.cons (o := _) rfl (fun K_ hK_ => ?_) AllReadyH.nil)
            go_simp
            (refine hcallA.out.mono ?_; rintro e w8 ⟨own2, rfl, hI2, ho2, hk2⟩)
            refine hK_.out _ _ ⟨hk2.cell (show World.cell? _ _ = some (ptrT D blk (π ++ [false])) from z0) (hnA.out _ (.inl rfl)), hk2.cell (show World.cell? _ _ = some (ptrT D blk (π ++ [true])) from z1) (hnA.out _ (.inl rfl)), hk2.cell (show World.cell? _ _ = some (.int .u32 (adrW (π ++ [false]))) from z2) (hnA.out _ (.inr (.inl rfl))), hk2.cell (show World.cell? _ _ = some (.int .i64 N1) from z3) (hnA.out _ (.inr (.inl rfl))), hk2.cell (show World.cell? _ _ = some (.int .u32 (adrW (π ++ [true]))) from z4) (hnA.out _ (.inr (.inr rfl))), hk2.cell (show World.cell? _ _ = some (.int .i64 N1) from z5) (hnA.out _ (.inr (.inr rfl)))⟩ (fun hHeld => ?_)
            clear hK_ K_
            (try simp only [Act.put, List.getElem_toArray, List.getElem_cons_succ, List.getElem_cons_zero, List.setIfInBounds_toArray, List.set_cons_zero, List.set_cons_succ])
            refine wpAnyH_take (i := 8) (oi := _) (v := ?_) rfl (by kernel_rfl) (by kernel_rfl) (by kernel_rfl) (fun _ _ _ h => h) (Or.inl ⟨by first | (simp [Region.wanted, yielded]; done) | rfl, ?_⟩) (by assumption) ?_
            rotate_left
            · intro w hSw
              first | (go_simp; done) | (go_simp; with_reducible rfl)
            (try simp only [Act.put, List.getElem_toArray, List.getElem_cons_succ, List.getElem_cons_zero, List.setIfInBounds_toArray, List.set_cons_zero, List.set_cons_succ])
            refine wpAnyH_take (i := 9) (oi := _) (v := undef) rfl (by kernel_rfl) (by kernel_rfl) (by kernel_rfl) (fun _ _ _ h => h) (Or.inr ⟨by simp [Region.wanted, yielded], rfl⟩) (by assumption) ?_
            (try simp only [Act.put, List.getElem_toArray, List.getElem_cons_succ, List.getElem_cons_zero, List.setIfInBounds_toArray, List.set_cons_zero, List.set_cons_succ])
            refine wpAnyH_take (i := 10) (oi := _) (v := undef) rfl (by kernel_rfl) (by kernel_rfl) (by kernel_rfl) (fun _ _ _ h => h) (Or.inr ⟨by simp [Region.wanted, yielded], rfl⟩) (by assumption) ?_
            (try simp only [Act.put, List.getElem_toArray, List.getElem_cons_succ, List.getElem_cons_zero, List.setIfInBounds_toArray, List.set_cons_zero, List.set_cons_succ])
            refine wpAnyH_take (i := 11) (oi := _) (v := undef) rfl (by kernel_rfl) (by kernel_rfl) (by kernel_rfl) (fun _ _ _ h => h) (Or.inr ⟨by simp [Region.wanted, yielded], rfl⟩) (by assumption) ?_
            (try simp only [Act.put, List.getElem_toArray, List.getElem_cons_succ, List.getElem_cons_zero, List.setIfInBounds_toArray, List.set_cons_zero, List.set_cons_succ])
            refine wpAnyH_take (i := 12) (oi := _) (v := undef) rfl (by kernel_rfl) (by kernel_rfl) (by kernel_rfl) (fun _ _ _ h => h) (Or.inr ⟨by simp [Region.wanted, yielded], rfl⟩) (by assumption) ?_
            (try simp only [Act.put, List.getElem_toArray, List.getElem_cons_succ, List.getElem_cons_zero, List.setIfInBounds_toArray, List.set_cons_zero, List.set_cons_succ])
            refine wpAnyH_take (i := 13) (oi := _) (v := undef) rfl (by kernel_rfl) (by kernel_rfl) (by kernel_rfl) (fun _ _ _ h => h) (Or.inr ⟨by simp [Region.wanted, yielded], rfl⟩) (by assumption) ?_
            (try simp only [Act.put, List.getElem_toArray, List.getElem_cons_succ, List.getElem_cons_zero, List.setIfInBounds_toArray, List.set_cons_zero, List.set_cons_succ])
            refine wpAnyH_take (i := 14) (oi := _) (v := undef) rfl (by kernel_rfl) (by kernel_rfl) (by kernel_rfl) (fun _ _ _ h => h) (Or.inr ⟨by simp [Region.wanted, yielded], rfl⟩) (by assumption) ?_
            (try simp only [Act.put, List.getElem_toArray, List.getElem_cons_succ, List.getElem_cons_zero, List.setIfInBounds_toArray, List.set_cons_zero, List.set_cons_succ])
            refine wpAnyH_take (i := 15) (oi := _) (v := undef) rfl (by kernel_rfl) (by kernel_rfl) (by kernel_rfl) (fun _ _ _ h => h) (Or.inr ⟨by simp [Region.wanted, yielded], rfl⟩) (by assumption) ?_
            (try simp only [Act.put, List.getElem_toArray, List.getElem_cons_succ, List.getElem_cons_zero, List.setIfInBounds_toArray, List.set_cons_zero, List.set_cons_succ])
            refine wpAnyH_take (i := 16) (oi := _) (v := undef) rfl (by kernel_rfl) (by kernel_rfl) (by kernel_rfl) (fun _ _ _ h => h) (Or.inr ⟨by simp [Region.wanted, yielded], rfl⟩) (by assumption) ?_
            (try simp only [Act.put, List.getElem_toArray, List.getElem_cons_succ, List.getElem_cons_zero, List.setIfInBounds_toArray, List.set_cons_zero, List.set_cons_succ])
            refine wpAnyH_take (i := 17) (oi := _) (v := ?_) rfl (by kernel_rfl) (by kernel_rfl) (by kernel_rfl) (fun _ _ _ h => h) (Or.inl ⟨by first | (simp [Region.wanted, yielded]; done) | rfl, ?_⟩) (by assumption) ?_
            rotate_left
            · intro w hSw
              first | (go_simp; done) | (go_simp; with_reducible rfl)
            (try simp only [Act.put, List.getElem_toArray, List.getElem_cons_succ, List.getElem_cons_zero, List.setIfInBounds_toArray, List.set_cons_zero, List.set_cons_succ])
            refine wpAnyH_take (i := 18) (oi := _) (v := ?_) rfl (by kernel_rfl) (by kernel_rfl) (by kernel_rfl) (fun _ _ _ h => h) (Or.inl ⟨by first | (simp [Region.wanted, yielded]; done) | rfl, ?_⟩) (by assumption) ?_
            rotate_left
            · intro w hSw
              first | (go_simp; done) | (go_simp; with_reducible rfl)
            (try simp only [Act.put, List.getElem_toArray, List.getElem_cons_succ, List.getElem_cons_zero, List.setIfInBounds_toArray, List.set_cons_zero, List.set_cons_succ])
            refine wpAnyH_done (by kernel_rfl) ?_ _
            have HI2 := mkHid hI2
            have HGF := mkHid (HGA.out own2 ho2)
            have HKF := mkHid (HKA.out own2 w8 hk2)
            clear hI2 ho2 hk2 hcallA hcallB z0 z1 z2 z3 z4 z5
            go_wp2_with fail
            go_ret
            exact ⟨own2, by rw [HRA.out, if_neg (by rw [hb0]; simp), hb0]; rfl, by rw [HRA.out, if_neg (by rw [hb0]; simp)]; exact HI2.out, HGF.out, HKF.out⟩
          | true =>
            rw [hb0] at hcallA
            refine wp_region_held_drew (S := fun w' => w'.cell? ⟨blk π, 0, none⟩ = some (ptrT D blk (π ++ [false])) ∧ w'.cell? ⟨blk π, 1, none⟩ = some (ptrT D blk (π ++ [true])) ∧ w'.cell? ⟨S6, 0, none⟩ = some (.int .u32 (adrW (π ++ [false]))) ∧ w'.cell? ⟨S6, 1, none⟩ = some (.int .i64 N1) ∧ w'.cell? ⟨S7, 0, none⟩ = some (.int .u32 (adrW (π ++ [true]))) ∧ w'.cell? ⟨S7, 1, none⟩ = some (.int .i64 N1)) (by kernel_rfl) ⟨z0, z1, z2, z3, z4, z5⟩ (fun hHeld => ?_)
            refine wpAnyH_take (i := 0) (oi := _) (v := ?_) rfl (by kernel_rfl) (by kernel_rfl) (by kernel_rfl) (fun _ _ _ h => h) (Or.inl ⟨by first | (simp [Region.wanted, yielded]; done) | rfl, ?_⟩) (by assumption) ?_
            rotate_left
            · intro w hSw
              first | (go_simp; done) | (go_simp; with_reducible rfl)
            (try simp only [Act.put, List.getElem_toArray, List.getElem_cons_succ, List.getElem_cons_zero, List.setIfInBounds_toArray, List.set_cons_zero, List.set_cons_succ])
            refine wpAnyH_take (i := 1) (oi := _) (v := ?_) rfl (by kernel_rfl) (by kernel_rfl) (by kernel_rfl) (fun _ _ _ h => h) (Or.inl ⟨by first | (simp [Region.wanted, yielded]; done) | rfl, ?_⟩) (by assumption) ?_
            rotate_left
            · intro w hSw
              first | (go_simp; done) | (go_simp; with_reducible rfl)
            (try simp only [Act.put, List.getElem_toArray, List.getElem_cons_succ, List.getElem_cons_zero, List.setIfInBounds_toArray, List.set_cons_zero, List.set_cons_succ])
            refine wpAnyH_take (i := 2) (oi := _) (v := ?_) rfl (by kernel_rfl) (by kernel_rfl) (by kernel_rfl) (fun _ _ _ h => h) (Or.inl ⟨by first | (simp [Region.wanted, yielded]; done) | rfl, ?_⟩) (by assumption) ?_
            rotate_left
            · intro w hSw
              first | (go_simp; done) | (go_simp; with_reducible rfl)
            (try simp only [Act.put, List.getElem_toArray, List.getElem_cons_succ, List.getElem_cons_zero, List.setIfInBounds_toArray, List.set_cons_zero, List.set_cons_succ])
            refine wpAnyH_take (i := 3) (oi := _) (v := ?_) rfl (by kernel_rfl) (by kernel_rfl) (by kernel_rfl) (fun _ _ _ h => h) (Or.inl ⟨by first | (simp [Region.wanted, yielded]; done) | rfl, ?_⟩) (by assumption) ?_
            rotate_left
            · intro w hSw
              first | (go_simp; done) | (go_simp; with_reducible rfl)
            (try simp only [Act.put, List.getElem_toArray, List.getElem_cons_succ, List.getElem_cons_zero, List.setIfInBounds_toArray, List.set_cons_zero, List.set_cons_succ])
            refine wpAnyH_take (i := 4) (oi := _) (v := ?_) rfl (by kernel_rfl) (by kernel_rfl) (by kernel_rfl) (fun _ _ _ h => h) (Or.inl ⟨by first | (simp [Region.wanted, yielded]; done) | rfl, ?_⟩) (by assumption) ?_
            rotate_left
            · intro w hSw
              first | (go_simp; done) | (go_simp; with_reducible rfl)
            (try simp only [Act.put, List.getElem_toArray, List.getElem_cons_succ, List.getElem_cons_zero, List.setIfInBounds_toArray, List.set_cons_zero, List.set_cons_succ])
            refine wpAnyH_take (i := 5) (oi := _) (v := ?_) rfl (by kernel_rfl) (by kernel_rfl) (by kernel_rfl) (fun _ _ _ h => h) (Or.inl ⟨by first | (simp [Region.wanted, yielded]; done) | rfl, ?_⟩) (by assumption) ?_
            rotate_left
            · intro w hSw
              first | (go_simp; done) | (go_simp; with_reducible rfl)
            (try simp only [Act.put, List.getElem_toArray, List.getElem_cons_succ, List.getElem_cons_zero, List.setIfInBounds_toArray, List.set_cons_zero, List.set_cons_succ])
            refine wpAnyH_take (i := 6) (oi := _) (v := ?_) rfl (by kernel_rfl) (by kernel_rfl) (by kernel_rfl) (fun _ _ _ h => h) (Or.inl ⟨by first | (simp [Region.wanted, yielded]; done) | rfl, ?_⟩) (by assumption) ?_
            rotate_left
            · intro w hSw
              first | (go_simp; done) | (go_simp; with_reducible rfl)
            (try simp only [Act.put, List.getElem_toArray, List.getElem_cons_succ, List.getElem_cons_zero, List.setIfInBounds_toArray, List.set_cons_zero, List.set_cons_succ])
            refine wpAnyH_ready (rs := [7]) (by kernel_rfl) (by simp) (AllReadyH.cons (o := _) rfl (fun K_ hK_ => ?_) AllReadyH.nil)
            go_simp
            (refine hcallA.out.mono ?_; rintro e w8 ⟨own2, rfl, hI2, ho2, hk2⟩; have y0 := hk2.cell (show World.cell? W7.drew _ = some (ptrT D blk (π ++ [false])) from z0) (hnA.out _ (.inl rfl)); have y1 := hk2.cell (show World.cell? W7.drew _ = some (ptrT D blk (π ++ [true])) from z1) (hnA.out _ (.inl rfl)); have y2 := hk2.cell (show World.cell? W7.drew _ = some (.int .u32 (adrW (π ++ [false]))) from z2) (hnA.out _ (.inr (.inl rfl))); have y3 := hk2.cell (show World.cell? W7.drew _ = some (.int .i64 N1) from z3) (hnA.out _ (.inr (.inl rfl))); have y4 := hk2.cell (show World.cell? W7.drew _ = some (.int .u32 (adrW (π ++ [true]))) from z4) (hnA.out _ (.inr (.inr rfl))); have y5 := hk2.cell (show World.cell? W7.drew _ = some (.int .i64 N1) from z5) (hnA.out _ (.inr (.inr rfl))); have hnB := hnC.out own2 ho2)
            refine hK_.out _ _ ⟨y0, y1, y2, y3, y4, y5⟩ (fun hHeld => ?_)
            clear hK_ K_
            (try simp only [Act.put, List.getElem_toArray, List.getElem_cons_succ, List.getElem_cons_zero, List.setIfInBounds_toArray, List.set_cons_zero, List.set_cons_succ])
            refine wpAnyH_take (i := 8) (oi := _) (v := ?_) rfl (by kernel_rfl) (by kernel_rfl) (by kernel_rfl) (fun _ _ _ h => h) (Or.inl ⟨by first | (simp [Region.wanted, yielded]; done) | rfl, ?_⟩) (by assumption) ?_
            rotate_left
            · intro w hSw
              first | (go_simp; done) | (go_simp; with_reducible rfl)
            (try simp only [Act.put, List.getElem_toArray, List.getElem_cons_succ, List.getElem_cons_zero, List.setIfInBounds_toArray, List.set_cons_zero, List.set_cons_succ])
            refine wpAnyH_take (i := 9) (oi := _) (v := ?_) rfl (by kernel_rfl) (by kernel_rfl) (by kernel_rfl) (fun _ _ _ h => h) (Or.inl ⟨by first | (simp [Region.wanted, yielded]; done) | rfl, ?_⟩) (by assumption) ?_
            rotate_left
            · intro w hSw
              first | (go_simp; done) | (go_simp; with_reducible rfl)
            (try simp only [Act.put, List.getElem_toArray, List.getElem_cons_succ, List.getElem_cons_zero, List.setIfInBounds_toArray, List.set_cons_zero, List.set_cons_succ])
            refine wpAnyH_take (i := 10) (oi := _) (v := ?_) rfl (by kernel_rfl) (by kernel_rfl) (by kernel_rfl) (fun _ _ _ h => h) (Or.inl ⟨by first | (simp [Region.wanted, yielded]; done) | rfl, ?_⟩) (by assumption) ?_
            rotate_left
            · intro w hSw
              first | (go_simp; done) | (go_simp; with_reducible rfl)
            (try simp only [Act.put, List.getElem_toArray, List.getElem_cons_succ, List.getElem_cons_zero, List.setIfInBounds_toArray, List.set_cons_zero, List.set_cons_succ])
            refine wpAnyH_take (i := 11) (oi := _) (v := ?_) rfl (by kernel_rfl) (by kernel_rfl) (by kernel_rfl) (fun _ _ _ h => h) (Or.inl ⟨by first | (simp [Region.wanted, yielded]; done) | rfl, ?_⟩) (by assumption) ?_
            rotate_left
            · intro w hSw
              first | (go_simp; done) | (go_simp; with_reducible rfl)
            (try simp only [Act.put, List.getElem_toArray, List.getElem_cons_succ, List.getElem_cons_zero, List.setIfInBounds_toArray, List.set_cons_zero, List.set_cons_succ])
            refine wpAnyH_take (i := 12) (oi := _) (v := ?_) rfl (by kernel_rfl) (by kernel_rfl) (by kernel_rfl) (fun _ _ _ h => h) (Or.inl ⟨by first | (simp [Region.wanted, yielded]; done) | rfl, ?_⟩) (by assumption) ?_
            rotate_left
            · intro w hSw
              first | (go_simp; done) | (go_simp; with_reducible rfl)
            (try simp only [Act.put, List.getElem_toArray, List.getElem_cons_succ, List.getElem_cons_zero, List.setIfInBounds_toArray, List.set_cons_zero, List.set_cons_succ])
            refine wpAnyH_take (i := 13) (oi := _) (v := ?_) rfl (by kernel_rfl) (by kernel_rfl) (by kernel_rfl) (fun _ _ _ h => h) (Or.inl ⟨by first | (simp [Region.wanted, yielded]; done) | rfl, ?_⟩) (by assumption) ?_
            rotate_left
            · intro w hSw
              first | (go_simp; done) | (go_simp; with_reducible rfl)
            (try simp only [Act.put, List.getElem_toArray, List.getElem_cons_succ, List.getElem_cons_zero, List.setIfInBounds_toArray, List.set_cons_zero, List.set_cons_succ])
            refine wpAnyH_take (i := 14) (oi := _) (v := ?_) rfl (by kernel_rfl) (by kernel_rfl) (by kernel_rfl) (fun _ _ _ h => h) (Or.inl ⟨by first | (simp [Region.wanted, yielded]; done) | rfl, ?_⟩) (by assumption) ?_
            rotate_left
            · intro w hSw
              first | (go_simp; done) | (go_simp; with_reducible rfl)
            (try simp only [Act.put, List.getElem_toArray, List.getElem_cons_succ, List.getElem_cons_zero, List.setIfInBounds_toArray, List.set_cons_zero, List.set_cons_succ])
            refine wpAnyH_take (i := 15) (oi := _) (v := ?_) rfl (by kernel_rfl) (by kernel_rfl) (by kernel_rfl) (fun _ _ _ h => h) (Or.inl ⟨by first | (simp [Region.wanted, yielded]; done) | rfl, ?_⟩) (by assumption) ?_
            rotate_left
            · intro w hSw
              first | (go_simp; done) | (go_simp; with_reducible rfl)
            (try simp only [Act.put, List.getElem_toArray, List.getElem_cons_succ, List.getElem_cons_zero, List.setIfInBounds_toArray, List.set_cons_zero, List.set_cons_succ])
            refine wpAnyH_ready (rs := [16]) (by kernel_rfl) (by simp) (AllReadyH.cons (o := _) rfl (fun K_ hK_ => ?_) AllReadyH.nil)
            go_simp
            (refine (hcallB.out w8 own2 hI2 ho2 hk2).mono ?_; rintro e w9 ⟨own3, rfl, hI3, ho3, hk3⟩)
            refine hK_.out _ _ ⟨hk3.cell y0 (hnB _ (.inl rfl)), hk3.cell y1 (hnB _ (.inl rfl)), hk3.cell y2 (hnB _ (.inr (.inl rfl))), hk3.cell y3 (hnB _ (.inr (.inl rfl))), hk3.cell y4 (hnB _ (.inr (.inr rfl))), hk3.cell y5 (hnB _ (.inr (.inr rfl)))⟩ (fun hHeld => ?_)
            clear hK_ K_
            (try simp only [Act.put, List.getElem_toArray, List.getElem_cons_succ, List.getElem_cons_zero, List.setIfInBounds_toArray, List.set_cons_zero, List.set_cons_succ])
            refine wpAnyH_take (i := 17) (oi := _) (v := ?_) rfl (by kernel_rfl) (by kernel_rfl) (by kernel_rfl) (fun _ _ _ h => h) (Or.inl ⟨by first | (simp [Region.wanted, yielded]; done) | rfl, ?_⟩) (by assumption) ?_
            rotate_left
            · intro w hSw
              first | (go_simp; done) | (go_simp; with_reducible rfl)
            (try simp only [Act.put, List.getElem_toArray, List.getElem_cons_succ, List.getElem_cons_zero, List.setIfInBounds_toArray, List.set_cons_zero, List.set_cons_succ])
            refine wpAnyH_take (i := 18) (oi := _) (v := ?_) rfl (by kernel_rfl) (by kernel_rfl) (by kernel_rfl) (fun _ _ _ h => h) (Or.inl ⟨by first | (simp [Region.wanted, yielded]; done) | rfl, ?_⟩) (by assumption) ?_
            rotate_left
            · intro w hSw
              first | (go_simp; done) | (go_simp; with_reducible rfl)
            (try simp only [Act.put, List.getElem_toArray, List.getElem_cons_succ, List.getElem_cons_zero, List.setIfInBounds_toArray, List.set_cons_zero, List.set_cons_succ])
            refine wpAnyH_done (by kernel_rfl) ?_ _
            have HI3 := mkHid hI3
            have HGF : Hid (∀ b, own3 b → own b ∨ w.heap.size ≤ b) := fun b h => by
              rcases ho3 b h with h1 | h1
              · exact HGA.out own2 ho2 b h1
              · have := (HKA.out own2 w8 hk2).size; exact .inr (by omega)
            have HKF : Hid (Kb own w w9) := (HKA.out own2 w8 hk2).trans' hk3 (HGA.out own2 ho2)
            clear hI2 hI3 ho2 ho3 hk2 hk3 hcallA hcallB z0 z1 z2 z3 z4 z5 y0 y1 y2 y3 y4 y5 hnB
            go_wp2_with fail
            go_ret
            exact ⟨own3, by rw [HRA.out, if_pos hb0]; rfl, by rw [HRA.out, if_pos hb0]; exact HI3.out, HGF.out, HKF.out⟩
end Go.Proofs.Ytnihacajjpcjeaa

end
section
namespace Go.Proofs.Ytnihacajjpcjeaa
open Go.RowKit Go.Proofs.Ytnihacajjpcjeaa.P Go.Proofs.YtnihacajjpcjeaaW.PrintWords Go.Proofs.YtnihacajjpcjeaaW.PrintLast Go.Proofs.YtnihacajjpcjeaaW.PrintMore
set_option linter.unusedVariables false
set_option linter.unusedSimpArgs false

set_option maxHeartbeats 8000000 in
set_option maxRecDepth 100000 in
theorem each_calls (fid : Nat) (cap : Array Value) {σ : Type} (step : σ → S43 → σ × Bool) (Inv : World → (Nat → Prop) → σ → Prop) (cnt : σ → Nat) (hdo : Does fid cap step Inv cnt)
    (w : World) (bt : Nat) (ownT : Nat → Prop) (n : Int) (m : Way → Option Int) (l : List S43) (hT : Tri kI w bt ownT n m) (hR : Rel m l) (own : Nat → Prop) (s : σ) (hI : Inv w own s) (hd : ∀ b, own b → ¬ ownT b) (hc : cnt s + l.length ≤ 1000) :
    Calls Try.prog 24 #[.pointer (some ⟨bt, 0, none⟩), .func (.func fid) #[] cap] w fun e w' => ∃ own' : Nat → Prop, e = .returned (.tuple #[]) ∧ Inv w' own' (runS step s l).1 ∧ (∀ b, own' b → own b ∨ w.heap.size ≤ b) ∧ Kb own w w' := by
  obtain ⟨D, blk, g1, g2, g3, g4⟩ := hT
  have hc0 := g1.cell0
  have hw := mkHid (walk_calls fid cap step Inv cnt hdo bt n D m blk l hR g2 33 [] rfl w own s g1 hI (fun π hp h => hd _ h (g4 π hp)) (fun h => hd _ h g3) (by rw [enum_rel hR]; exact hc))
  rw [enum_rel hR] at hw
  clear g1 g2 g3 g4 hI hd hc hR hdo
  go_enter Try.func24, Try.ntmps24
  go_wp2_with fail
  refine hw.out.mono ?_
  rintro e w' ⟨own', rfl, h1, h2, h3⟩
  have H1 := mkHid h1
  have H2 := mkHid h2
  have H3 := mkHid h3
  clear h1 h2 h3
  go_wp2_with fail
  exact bodyPost_end (results_none rfl _ _ _) rfl ⟨own', rfl, H1.out, H2.out, H3.out⟩
/-- what Below's function does: it puts a prefix behind those that are there -/
def addS (s : List S34) (x : S43) : List S34 × Bool := (s ++ [x.f0], true)
def InvB (S : Nat) (w : World) (own : Nat → Prop) (s : List S34) : Prop :=
  ∃ v : Value, w.heap[S]? = some (.cells #[v] 44 (0, 0)) ∧ Kd.R k34 34 w (S + 1) (fun _ => True) v s ∧ ∀ b, own b ↔ (b = S ∨ v.ownBlock = some b)
theorem run_addS : ∀ (l : List S43) (s : List S34), runS addS s l = (s ++ l.map (·.f0), true) := by
  intro l
  induction l with
  | nil => intro s; simp [runS]
  | cons x l ih => intro s; simp only [runS]; show (if true = true then runS addS (s ++ [x.f0]) l else (s ++ [x.f0], false)) = _; rw [if_pos rfl, ih]; simp
set_option maxHeartbeats 8000000 in
set_option maxRecDepth 100000 in
theorem addS_calls (S : Nat) (w : World) (own : Nat → Prop) (s : List S34) (a b v : Int) (hl : s.length < 1000) (hI : InvB S w own s) :
    Calls Try.prog 48 #[.agg #[.int .u32 a, .int .i64 b], .int .i64 v, .pointer (some ⟨S, 0, none⟩)] w fun e w' => ∃ own' : Nat → Prop, e = .returned (.bool true) ∧ InvB S w' own' (s ++ [⟨a, b⟩]) ∧ (∀ b, own' b → own b ∨ w.heap.size ≤ b) ∧ Kb own w w' := by
  obtain ⟨u, hS, hR, ho⟩ := hI
  have HO := mkHid ho
  obtain ⟨A, c, hu⟩ := Kd.R_slice hR
  obtain ⟨ln, hln⟩ : ∃ ln, ln = s.length := ⟨_, rfl⟩
  rw [← hln] at hu
  subst hu
  have HLN := mkHid hln
  obtain ⟨W, hW⟩ : ∃ W, W = w.alloc (.cells #[.int .u32 a, .int .i64 b] 34) := ⟨_, rfl⟩
  have hB : Below w.heap.size w W := by rw [hW]; exact Below.alloc (Below.refl _ w) (Nat.le_refl _) _
  have HB := mkHid hB
  have q0 : W.cell? ⟨w.heap.size, 0, none⟩ = some (.int .u32 a) := by rw [hW]; go_simp
  have q1 : W.cell? ⟨w.heap.size, 1, none⟩ = some (.int .i64 b) := by rw [hW]; go_simp
  have hSW : W.heap[S]? = some (.cells #[.slice A ln c] 44 (0, 0)) := (hB.block S (blk_lt hS)).trans hS
  have HSW := mkHid hSW
  have HRW := mkHid (Kd.R_below hR hB)
  have hx : W.cell? ⟨S, 0, none⟩ = some (.slice A ln c) := blk_cell hSW 0
  have hSl : S + 1 ≤ W.heap.size := blk_lt hSW
  clear ho hln hB hS hR hSW
  go_enter Try.func48, Try.ntmps48
  go_upto_region 1 with fail
  rw [← hW]
  clear hW
  go_upto_region 2 with (at_builtin; refine Kd.R_append k34 (w0 := W) (S + 1) ?a1 (.tmp 6) (.tmp 8) 44 34 (.agg #[(.int .u32 0), (.int .i64 0)]) 16 ?a2 ?a3 ?a4 ?a5 ?a6 ?a7 (.slice A ln c) s ⟨a, b⟩ [.int .u32 a, .int .i64 b] (fun _ => True) (fun _ => False) ?a8 ?a9 ?aP ?aE ?aF ?aO ?aB ?aS ?aL ?_; (case a1 => rfl); (case a2 => rfl); (case a3 => exact Try.underlying44); (case a4 => exact info34); (case a5 => rfl); (case a6 => decide); (case a7 => omega); (case a8 => rfl); (case a9 => rfl); (case aP => exact k34_mkM _ _ _ ⟨a, b⟩); (case aE => exact fun _ h => h.elim); (case aF => exact fun _ _ => trivial); (case aO => exact HRW.out); (case aB => exact Below.refl _ _); (case aS => exact hSl); (case aL => omega); intro v1 w3 hR3 hB3 hg3 hat3; have hS3 : w3.heap[S]? = some (.cells #[.slice A ln c] 44 (0, 0)) := (hB3.block S (by omega)).trans HSW.out; have hx3 : w3.cell? ⟨S, 0, none⟩ = some (.slice A ln c) := blk_cell hS3 0; have hf3 : w3.frozen? ⟨S, 0, none⟩ = false := blk_frozen hS3 0; obtain ⟨A4, c4, h4⟩ := Kd.R_slice hR3; obtain ⟨n4, hn4⟩ : ∃ n4 : Nat, n4 = (s ++ [(⟨a, b⟩ : S34)]).length := ⟨_, rfl⟩; rw [← hn4] at h4; subst h4; have HN4 := mkHid hn4; clear hn4)
  have HIV : Hid (InvB S (w3.setCell ⟨S, 0, none⟩ (.slice A4 n4 c4)) (fun b => b = S ∨ (Value.slice A4 n4 c4).ownBlock = some b) (s ++ [⟨a, b⟩])) :=
    ⟨.slice A4 n4 c4, blk_set hS3 0 _, Kd.R_mono (Kd.R_far (Kd.R_bound hR3) (p := ⟨S, 0, none⟩) (fun k hk => by have := hk.2.1; show k ≠ S; omega) _) (fun _ _ => trivial), fun b => Iff.rfl⟩
  have HGR : Hid (∀ b, (b = S ∨ (Value.slice A4 n4 c4).ownBlock = some b) → own b ∨ w.heap.size ≤ b) := fun b h => by
    rcases h with h | h
    · exact .inl ((HO.out b).2 (.inl h))
    · rcases hat3 with h2 | ⟨b', h2, h3⟩
      · exact .inl ((HO.out b).2 (.inr (by rw [← h2]; exact h)))
      · rw [h] at h2; have := Option.some.inj h2; have := HB.out.size; exact .inr (by omega)
  have HKB : Hid (Kb own w (w3.setCell ⟨S, 0, none⟩ (.slice A4 n4 c4))) := by
    refine Kb.set ⟨hB3.os.trans HB.out.os, hB3.tape.trans HB.out.tape, hB3.output.trans HB.out.output, Nat.le_trans HB.out.size hB3.size, fun k hk hno => ?_⟩ _ (.inl ((HO.out S).2 (.inl rfl)))
    refine (hg3.block k (Nat.lt_of_lt_of_le hk HB.out.size) (fun e => hno ((HO.out k).2 (.inr e.symm)))).trans (HB.out.block k hk)
  clear hR3 hB3 hg3 hat3 hS3 hx3 hf3
  go_wp2_with fail
  go_ret
  exact ⟨_, rfl, HIV.out, HGR.out, HKB.out⟩
theorem addS_does (S : Nat) : Does 48 #[.pointer (some ⟨S, 0, none⟩)] addS (InvB S) (fun s => s.length) where
  enters := fun args W => by kernel_rfl
  read := fun w w' own s ⟨v, h1, h2, h3⟩ hb => ⟨v, (hb.block S (blk_lt h1)).trans h1, Kd.R_below h2 hb, h3⟩
  lt := fun w own s ⟨v, h1, h2, h3⟩ b hb => by
    rcases (h3 b).1 hb with rfl | h
    · exact blk_lt h1
    · exact Kd.R_lt h2 b h
  grow := fun s x => by show (s ++ [x.f0]).length ≤ _; simp
  does := fun w own s π v hc hI => addS_calls S w own s (adrW π) (π.length : Int) v hc hI

set_option maxHeartbeats 8000000 in
set_option maxRecDepth 100000 in
theorem below_calls (w : World) (bt : Nat) (ownT : Nat → Prop) (n : Int) (m : Way → Option Int) (l : List S43) (hT : Tri kI w bt ownT n m) (hS : ∀ b, ownT b → b < w.heap.size) (hR : Rel m l) (hl : l.length ≤ 100) (a : Int) (N : Nat) (ha : isA a) (b1 : N ≤ 32) (hM : addr_May.f a N = some true) (hadr : adrW (wayA a N) = a) (hle : (enumW m (33 - N) (wayA a N)).length ≤ 100) :
    Calls Try.prog 26 #[.pointer (some ⟨bt, 0, none⟩), .agg #[.int .u32 a, .int .i64 N]] w fun e w' => ∃ v : Value, e = .returned v ∧ Kd.R k34 34 w' w.heap.size (fun _ => True) v ((enumW m (33 - N) (wayA a N)).map (·.f0)) ∧ Below w.heap.size w w' := by
  obtain ⟨D, blk, g1, g2, g3, g4⟩ := hT
  obtain ⟨S, hSe⟩ : ∃ S, S = w.heap.size + 1 := ⟨_, rfl⟩
  obtain ⟨W, hW⟩ : ∃ W, W = (w.alloc (.cells #[.int .u32 a, .int .i64 N] 34)).alloc (.cells #[.slice none 0 0] 44) := ⟨_, rfl⟩
  have q0 : W.cell? ⟨w.heap.size, 0, none⟩ = some (.int .u32 a) := by rw [hW]; go_simp
  have q1 : W.cell? ⟨w.heap.size, 1, none⟩ = some (.int .i64 N) := by rw [hW]; go_simp
  have hSW : W.heap[S]? = some (.cells #[.slice none 0 0] 44 (0, 0)) := by
    rw [hW, hSe]
    have := heap_alloc_new (w.alloc (.cells #[.int .u32 a, .int .i64 N] 34)) (.cells #[.slice none 0 0] 44)
    rw [World.size_alloc] at this
    exact this
  have HB : Hid (Below w.heap.size w W) := by rw [hW]; exact ((Below.refl w.heap.size w).alloc (Nat.le_refl _) _).alloc (by simp) _
  have HTW := mkHid (g1.below HB.out)
  have hfind : Hid (Calls Try.prog 42 #[.pointer (some ⟨bt, 0, none⟩), .agg #[.int .u32 a, .int .i64 N]] W.drew fun e w' => e = .returned (ptrT D blk (wayA a N)) ∧ Below W.drew.heap.size W.drew w') :=
    find_calls W.drew bt n D m blk HTW.out.drew a N ha.1 (by have := ha.2; omega) b1 hM
  have hI0 : InvB S W (fun b => b = S) [] := ⟨.slice none 0 0, hSW, Kd.R_nil _ _ _ _ _, fun b => by simp [Value.ownBlock]⟩
  have hwalk : Hid (∀ w5, Below W.drew.heap.size W.drew w5 → Calls Try.prog 47 #[ptrT D blk (wayA a N), .agg #[.int .u32 a, .int .i64 N], .func (.func 48) #[] #[.pointer (some ⟨S, 0, none⟩)]] w5 fun e w' => ∃ own' : Nat → Prop, e = .returned (.bool true) ∧ InvB S w' own' ((enumW m (33 - N) (wayA a N)).map (·.f0)) ∧ (∀ b, own' b → b = S ∨ w5.heap.size ≤ b) ∧ Kb (fun b => b = S) w5 w') := fun w5 hb => by
    have hI5 := (addS_does S).read _ _ _ _ ((addS_does S).read _ _ _ _ hI0 (below_drew (Below.refl _ W))) hb
    have h := walk_calls 48 #[.pointer (some ⟨S, 0, none⟩)] addS (InvB S) (fun s => s.length) (addS_does S) bt n D m blk l hR g2 (33 - N) (wayA a N) (by rw [wayA_len]; omega) w5 (fun b => b = S) [] (HTW.out.drew.below hb) hI5 (fun π hp h => by have := hS _ (g4 π hp); have h2 : blk π = S := h; omega) (fun h => by have := hS _ g3; have h2 : bt = S := h; omega) (by simp; omega)
    rw [run_addS, hadr, wayA_len, List.nil_append] at h
    exact h
  have hnA : Hid (¬ (fun b => b = S) (⟨w.heap.size, 0, none⟩ : Addr).block) := fun h => by have h2 : w.heap.size = S := h; omega
  have hbt := blk_lt g1.root
  have hsS : Hid (S = w.heap.size + 1) := hSe
  clear g1 g2 g3 g4 hR hM hI0 hS
  go_enter Try.func26, Try.ntmps26
  go_upto_region 2 with fail
  rw [← hSe, ← hW]
  clear hW hSe
  refine wp_region_held_drew (S := fun w' => w'.cell? ⟨w.heap.size, 0, none⟩ = some (.int .u32 a) ∧ w'.cell? ⟨w.heap.size, 1, none⟩ = some (.int .i64 (N : Int))) (by kernel_rfl) ⟨q0, q1⟩ (fun hHeld => ?_)
  refine wpAnyH_take (i := 0) (oi := _) (v := ?_) rfl (by kernel_rfl) (by kernel_rfl) (by kernel_rfl) (fun _ _ _ h => h) (Or.inl ⟨by first | (simp [Region.wanted, yielded]; done) | rfl, ?_⟩) (by assumption) ?_
  rotate_left
  · intro w hSw
    first | (go_simp; done) | (go_simp; with_reducible rfl)
  (try simp only [Act.put, List.getElem_toArray, List.getElem_cons_succ, List.getElem_cons_zero, List.setIfInBounds_toArray, List.set_cons_zero, List.set_cons_succ])
  refine wpAnyH_take (i := 1) (oi := _) (v := ?_) rfl (by kernel_rfl) (by kernel_rfl) (by kernel_rfl) (fun _ _ _ h => h) (Or.inl ⟨by first | (simp [Region.wanted, yielded]; done) | rfl, ?_⟩) (by assumption) ?_
  rotate_left
  · intro w hSw
    first | (go_simp; done) | (go_simp; with_reducible rfl)
  (try simp only [Act.put, List.getElem_toArray, List.getElem_cons_succ, List.getElem_cons_zero, List.setIfInBounds_toArray, List.set_cons_zero, List.set_cons_succ])
  refine wpAnyH_take (i := 3) (oi := _) (v := ?_) rfl (by kernel_rfl) (by kernel_rfl) (by kernel_rfl) (fun _ _ _ h => h) (Or.inl ⟨by first | (simp [Region.wanted, yielded]; done) | rfl, ?_⟩) (by assumption) ?_
  rotate_left
  · intro w hSw
    first | (go_simp; done) | (go_simp; with_reducible rfl)
  (try simp only [Act.put, List.getElem_toArray, List.getElem_cons_succ, List.getElem_cons_zero, List.setIfInBounds_toArray, List.set_cons_zero, List.set_cons_succ])
  refine wpAnyH_take (i := 4) (oi := _) (v := ?_) rfl (by kernel_rfl) (by kernel_rfl) (by kernel_rfl) (fun _ _ _ h => h) (Or.inl ⟨by first | (simp [Region.wanted, yielded]; done) | rfl, ?_⟩) (by assumption) ?_
  rotate_left
  · intro w hSw
    first | (go_simp; done) | (go_simp; with_reducible rfl)
  (try simp only [Act.put, List.getElem_toArray, List.getElem_cons_succ, List.getElem_cons_zero, List.setIfInBounds_toArray, List.set_cons_zero, List.set_cons_succ])
  refine wpAnyH_ready (rs := [2]) (by kernel_rfl) (by simp) (AllReadyH.cons (o := _) rfl (fun K_ hK_ => ?_) AllReadyH.nil)
  go_simp
  (go_at_call 42; refine hfind.out.mono ?_; rintro e w5 ⟨rfl, hb5⟩; have y0 := cell_keep hb5 (show World.cell? _ _ = some (.int .u32 a) from q0); have y1 := cell_keep hb5 (show World.cell? _ _ = some (.int .i64 (N : Int)) from q1))
  refine hK_.out _ _ ⟨y0, y1⟩ (fun hHeld => ?_)
  clear hK_ K_
  (try simp only [Act.put, List.getElem_toArray, List.getElem_cons_succ, List.getElem_cons_zero, List.setIfInBounds_toArray, List.set_cons_zero, List.set_cons_succ])
  refine wpAnyH_ready (rs := [5]) (by kernel_rfl) (by simp) (AllReadyH.cons (o := _) rfl (fun K_ hK_ => ?_) AllReadyH.nil)
  go_simp
  (go_at_call 47; refine (hwalk.out w5 hb5).mono ?_; rintro e w6 ⟨own', rfl, hI6, ho6, hk6⟩)
  refine hK_.out _ _ ⟨hk6.cell y0 hnA.out, hk6.cell y1 hnA.out⟩ (fun hHeld => ?_)
  clear hK_ K_
  (try simp only [Act.put, List.getElem_toArray, List.getElem_cons_succ, List.getElem_cons_zero, List.setIfInBounds_toArray, List.set_cons_zero, List.set_cons_succ])
  refine wpAnyH_done (by kernel_rfl) ?_ _
  obtain ⟨v, hv1, hv2, _⟩ := hI6
  have HV2 := mkHid hv2
  have hvc : w6.cell? ⟨S, 0, none⟩ = some v := blk_cell hv1 0
  have HBF : Hid (Below w.heap.size w w6) := (below_step (below_drew HB.out) hb5).trans (hk6.below (B := w.heap.size) (below_step (below_drew HB.out) hb5).size (fun i h => by have h2 : i = S := h; have := hsS.out; omega))
  obtain ⟨A, c, hve⟩ := Kd.R_slice hv2
  obtain ⟨n4, hn4⟩ : ∃ n4, n4 = ((enumW m (33 - N) (wayA a N)).map (·.f0)).length := ⟨_, rfl⟩
  rw [← hn4] at hve
  have HN4 := mkHid hn4
  subst hve
  clear hv1 hv2 hn4 hb5 ho6 hk6 y0 y1 q0 q1 hSW hwalk hfind
  go_wp2_with fail
  go_ret
  exact ⟨_, rfl, Kd.R_lower HV2.out (show w.heap.size ≤ S + 1 by have := hsS.out; omega), HBF.out⟩
end Go.Proofs.Ytnihacajjpcjeaa

end
section
namespace Go.Proofs.Ytnihacajjpcjeaa
open Go.RowKit Go.Proofs.Ytnihacajjpcjeaa.P Go.Proofs.YtnihacajjpcjeaaW.PrintWords Go.Proofs.YtnihacajjpcjeaaW.PrintLast Go.Proofs.YtnihacajjpcjeaaW.PrintMore
set_option linter.unusedVariables false
set_option linter.unusedSimpArgs false

/-- the function that counts till it is told to stop -/
def stopS (stop : Int) (s : Int) (x : S43) : Int × Bool := (s + 1, decide (s + 1 ≠ stop))
def InvN (cn cs : Nat) (stop : Int) (w : World) (own : Nat → Prop) (s : Int) : Prop :=
  w.heap[cn]? = some (.cells #[.int .i64 s] 3 (0, 0)) ∧ w.heap[cs]? = some (.cells #[.int .i64 stop] 3 (0, 0)) ∧ cn ≠ cs ∧ 0 ≤ s ∧ ∀ b, own b ↔ b = cn
set_option maxHeartbeats 8000000 in
set_option maxRecDepth 100000 in
theorem stopS_calls (cn cs : Nat) (stop : Int) (w : World) (own : Nat → Prop) (s : Int) (a b v : Int) (hl : s.toNat < 1000) (hI : InvN cn cs stop w own s) :
    Calls Try.prog 25 #[.agg #[.int .u32 a, .int .i64 b], .int .i64 v, .pointer (some ⟨cn, 0, none⟩), .pointer (some ⟨cs, 0, none⟩)] w fun e w' => ∃ own' : Nat → Prop, e = .returned (.bool (decide (s + 1 ≠ stop))) ∧ InvN cn cs stop w' own' (s + 1) ∧ (∀ b, own' b → own b ∨ w.heap.size ≤ b) ∧ Kb own w w' := by
  obtain ⟨h1, h2, h3, h4, h5⟩ := hI
  obtain ⟨W, hW⟩ : ∃ W, W = w.alloc (.cells #[.int .u32 a, .int .i64 b] 34) := ⟨_, rfl⟩
  have hB : Below w.heap.size w W := by rw [hW]; exact Below.alloc (Below.refl _ w) (Nat.le_refl _) _
  have HB := mkHid hB
  have g1 : W.heap[cn]? = some (.cells #[.int .i64 s] 3 (0, 0)) := (hB.block cn (blk_lt h1)).trans h1
  have g2 : W.heap[cs]? = some (.cells #[.int .i64 stop] 3 (0, 0)) := (hB.block cs (blk_lt h2)).trans h2
  have c1 : W.cell? ⟨cn, 0, none⟩ = some (.int .i64 s) := blk_cell g1 0
  have f1 : W.frozen? ⟨cn, 0, none⟩ = false := blk_frozen g1 0
  have hw : IntKind.i64.wrap (s + 1) = s + 1 := IntWalk.i64_in _ (by omega)
  have g3 : (W.setCell ⟨cn, 0, none⟩ (.int .i64 (s + 1))).heap[cn]? = some (.cells #[.int .i64 (s + 1)] 3 (0, 0)) := blk_set g1 0 _
  have g4 : (W.setCell ⟨cn, 0, none⟩ (.int .i64 (s + 1))).heap[cs]? = some (.cells #[.int .i64 stop] 3 (0, 0)) := blk_far g2 (Ne.symm h3) _
  have c3 : (W.setCell ⟨cn, 0, none⟩ (.int .i64 (s + 1))).cell? ⟨cn, 0, none⟩ = some (.int .i64 (s + 1)) := blk_cell g3 0
  have c4 : (W.setCell ⟨cn, 0, none⟩ (.int .i64 (s + 1))).cell? ⟨cs, 0, none⟩ = some (.int .i64 stop) := blk_cell g4 0
  have HI : Hid (InvN cn cs stop (W.setCell ⟨cn, 0, none⟩ (.int .i64 (s + 1))) own (s + 1)) := ⟨g3, g4, h3, by omega, h5⟩
  have HK : Hid (Kb own w (W.setCell ⟨cn, 0, none⟩ (.int .i64 (s + 1)))) := (Kb.of_below hB).set _ (.inl ((h5 cn).2 rfl))
  clear h1 h2 h3 h5 hB g1 g2 g3 g4
  go_enter Try.func25, Try.ntmps25
  go_upto_region 1 with fail
  rw [← hW]
  clear hW
  by_cases e : s + 1 = stop
  · subst e
    go_wp2_with fail
    go_ret
    exact ⟨own, by rw [show decide (s + 1 ≠ s + 1) = false by simp]; rfl, HI.out, fun b h => .inl h, HK.out⟩
  · have e1 : ((s + 1) != stop) = true := by simp [e]
    go_wp2_with fail
    go_ret
    exact ⟨own, by rw [show decide (s + 1 ≠ stop) = true by simp [e]]; rfl, HI.out, fun b h => .inl h, HK.out⟩
theorem stopS_does (cn cs : Nat) (stop : Int) : Does 25 #[.pointer (some ⟨cn, 0, none⟩), .pointer (some ⟨cs, 0, none⟩)] (stopS stop) (InvN cn cs stop) (fun s => s.toNat) where
  enters := fun args W => by kernel_rfl
  read := fun w w' own s ⟨h1, h2, h3, h4, h5⟩ hb => ⟨(hb.block cn (blk_lt h1)).trans h1, (hb.block cs (blk_lt h2)).trans h2, h3, h4, h5⟩
  lt := fun w own s ⟨h1, h2, h3, h4, h5⟩ b hb => by rw [(h5 b).1 hb]; exact blk_lt h1
  grow := fun s x => by show (s + 1).toNat ≤ s.toNat + 1; omega
  does := fun w own s π v hc hI => stopS_calls cn cs stop w own s (adrW π) (π.length : Int) v hc hI
theorem run_stop (stop : Int) : ∀ (l : List S43) (s : Int), (runS (stopS stop) s l).1 = if s + 1 ≤ stop ∧ stop ≤ s + l.length then stop else s + l.length := by
  intro l
  induction l with
  | nil => intro s; simp [runS]; intro h1 h2; omega
  | cons x l ih =>
    intro s
    simp only [runS]
    show (if decide (s + 1 ≠ stop) = true then runS (stopS stop) (s + 1) l else (s + 1, false)).1 = _
    by_cases e : s + 1 = stop
    · rw [if_neg (by simp [e])]
      show s + 1 = _
      rw [if_pos (by simp only [List.length_cons]; push_cast; omega)]; exact e
    · rw [if_pos (by simp [e]), ih (s + 1)]
      simp only [List.length_cons]
      push_cast
      split <;> split <;> omega
theorem keep3' {P : Program} {f : FuncId} {args : Array Value} {X : World} {Q : Ending → Prop} (h : Calls P f args X fun e w' => Q e ∧ Below X.heap.size X w') (p1 p2 p3 : Addr) (v1 v2 v3 : Value) (h1 : X.cell? p1 = some v1) (h2 : X.cell? p2 = some v2) (h3 : X.cell? p3 = some v3) :
    Calls P f args X fun e w' => Q e ∧ (w'.cell? p1 = some v1 ∧ w'.cell? p2 = some v2 ∧ w'.cell? p3 = some v3) ∧ Below X.heap.size X w' := by
  refine h.mono ?_
  rintro e w' ⟨hq, hb⟩
  exact ⟨hq, ⟨cell_keep hb h1, cell_keep hb h2, cell_keep hb h3⟩, hb⟩
set_option maxHeartbeats 4000000 in
set_option maxRecDepth 100000 in
theorem walk_nil' (w : World) (a b : Int) (f : Value) : Calls Try.prog 47 #[.pointer none, .agg #[.int .u32 a, .int .i64 b], f] w fun e w' => e = .returned (.bool true) ∧ Below w.heap.size w w' := by
  have HB0 : Hid (Below w.heap.size w (w.alloc (.cells #[.int .u32 a, .int .i64 b] 34))) := Below.alloc (Below.refl _ w) (Nat.le_refl _) _
  go_enter Try.func47, Try.ntmps47
  go_wp2_with fail
  go_ret
  exact ⟨rfl, HB0.out⟩
set_option maxHeartbeats 4000000 in
set_option maxRecDepth 100000 in
theorem below_not (w : World) (bt : Nat) (a b : Int) (hM : addr_May.f a b = some false) : Calls Try.prog 26 #[.pointer (some ⟨bt, 0, none⟩), .agg #[.int .u32 a, .int .i64 b]] w fun e w' => e = .returned (.slice none 0 0) ∧ Below w.heap.size w w' := by
  have HM := mkHid hM
  clear hM
  go_enter Try.func26, Try.ntmps26
  go_upto_region 2 with fail
  obtain ⟨W, hW⟩ : ∃ W, W = (w.alloc (.cells #[.int .u32 a, .int .i64 b] 34)).alloc (.cells #[.slice none 0 0] 44) := ⟨_, rfl⟩
  obtain ⟨g, hg⟩ : ∃ g, g = w.heap.size + 1 := ⟨_, rfl⟩
  have q0 : W.cell? ⟨w.heap.size, 0, none⟩ = some (.int .u32 a) := by rw [hW]; go_simp
  have q1 : W.cell? ⟨w.heap.size, 1, none⟩ = some (.int .i64 b) := by rw [hW]; go_simp
  have q2 : W.cell? ⟨g, 0, none⟩ = some (.slice none 0 0) := by rw [hW, hg]; go_simp
  have HB : Hid (Below w.heap.size w W) := by rw [hW]; exact ((Below.refl w.heap.size w).alloc (Nat.le_refl _) _).alloc (by simp) _
  rw [← hW, ← hg]
  clear hW hg
  go_region_held3 (fun w' => w'.cell? ⟨w.heap.size, 0, none⟩ = some (.int .u32 a) ∧ w'.cell? ⟨w.heap.size, 1, none⟩ = some (.int .i64 b) ∧ w'.cell? ⟨g, 0, none⟩ = some (.slice none 0 0)) (go_keep)
    (first | (go_at_call 42; refine (keep3' (find_not _ bt a b HM.out) _ _ _ _ _ _ (by exact q0) (by exact q1) (by exact q2)).mono ?_; rintro e w2 ⟨rfl, ⟨k0, k1, k2⟩, hb2⟩) | (go_at_call 47; refine (keep3' (walk_nil' _ a b _) _ _ _ _ _ _ (by exact k0) (by exact k1) (by exact k2)).mono ?_; rintro e w3 ⟨rfl, ⟨k3, k4, k5⟩, hb3⟩))
  all_goals
    have HF : Hid (Below w.heap.size w w3) := below_step (below_step (below_drew HB.out) hb2) hb3
    clear hb2 hb3 k0 k1 k2 k3 k4 q0 q1 q2
    go_wp2_with fail
    go_ret
    exact ⟨rfl, HF.out⟩
/-- what keeps a trie and a list beside one another: foreign blocks alone are written -/
theorem SO.kbn {w0 w w' : World} {bt : Nat} {own own' : Nat → Prop} {n : Int} {m : Way → Option Int} {v : Value} {l : List S43} (h : SO w0 w bt own n m v l) (hk : Kb own' w w') (h0 : ∀ b, own' b → w0.heap.size ≤ b) (h1 : ∀ b, own' b → ¬ own b) (h2 : ∀ b, v.ownBlock = some b → ¬ own' b) : SO w0 w' bt own n m v l := by
  refine ⟨h.below.trans (hk.below h.below.size h0), ?_, fun b hb => ⟨(h.ownb b hb).1, Nat.lt_of_lt_of_le (h.ownb b hb).2 hk.size⟩, Kd.R_mono (Kd.R_step (Kd.R_tight rfl h.row) (fun k ho hlt => hk.block k hlt (h2 k ho.symm))) (fun _ _ => trivial), h.dis, h.rel, h.len⟩
  obtain ⟨D, blk, g1, g2, g3, g4⟩ := h.tri
  exact ⟨D, blk, g1.kb hk (fun π hp ho => h1 _ ho (g4 π hp)) (fun ho => h1 _ ho g3), g2, g3, g4⟩
end Go.Proofs.Ytnihacajjpcjeaa

end
section
namespace Go.Proofs.Ytnihacajjpcjeaa
open Go.RowKit Go.Proofs.Ytnihacajjpcjeaa.P Go.Proofs.YtnihacajjpcjeaaW.PrintWords Go.Proofs.YtnihacajjpcjeaaW.PrintLast Go.Proofs.YtnihacajjpcjeaaW.PrintMore
set_option linter.unusedVariables false
set_option linter.unusedSimpArgs false

theorem adrW_lt (π : Way) (h : π.length ≤ 32) : 0 ≤ adrW π ∧ adrW π < 4294967296 := by
  have hp : (0 : Int) < 2 ^ (32 - π.length) := Int.pow_pos (by decide)
  have hlt := numW_lt π
  refine ⟨Int.mul_nonneg (by omega) (Int.le_of_lt hp), ?_⟩
  unfold adrW
  have e : (4294967296 : Int) = 2 ^ π.length * 2 ^ (32 - π.length) := by rw [← Int.pow_add, show π.length + (32 - π.length) = 32 by omega]; rfl
  rw [e]
  refine Int.mul_lt_mul_of_pos_right ?_ hp
  have : ((2 ^ π.length : Nat) : Int) = 2 ^ π.length := by simp
  omega
theorem adrW_isA (π : Way) (h : π.length ≤ 32) : isA (adrW π) := by
  have := adrW_lt π h; exact ⟨this.1, by omega⟩
theorem adrW_mod (π : Way) : adrW π % 2 ^ (32 - π.length) = 0 := by unfold adrW; exact Int.mul_emod_left _ _
theorem adrW_may (π : Way) (h : π.length ≤ 32) : addr_May.f (adrW π) (π.length : Int) = some true := by
  rw [may_is _ _ (adrW_isA π h), (mayB_iff _ _).2 ⟨by omega, by omega, by
      unfold un; rw [show (32 - (π.length : Int)).toNat = 32 - π.length by omega]; exact adrW_mod π⟩]
theorem numW_inj : ∀ (n : Nat) (π ρ : Way), π.length = n → ρ.length = n → numW π = numW ρ → π = ρ := by
  intro n
  induction n with
  | zero => intro π ρ h k _; rw [List.length_eq_zero_iff.1 h, List.length_eq_zero_iff.1 k]
  | succ n ih =>
    intro π ρ h k e
    rcases List.eq_nil_or_concat π with rfl | ⟨π', b, rfl⟩
    · simp at h
    rcases List.eq_nil_or_concat ρ with rfl | ⟨ρ', c, rfl⟩
    · simp at k
    rw [List.concat_eq_append] at *
    rw [List.concat_eq_append] at *
    rw [numW_snoc, numW_snoc] at e
    have hb : b = c := by cases b <;> cases c <;> simp at e ⊢ <;> omega
    subst hb
    rw [ih π' ρ' (by simpa using h) (by simpa using k) (by omega)]
theorem wayA_adrW (π : Way) (h : π.length ≤ 32) : wayA (adrW π) π.length = π := by
  have hb := adrW_lt π h
  have h1 := adrW_way (adrW π) hb.1 hb.2 π.length h
  have h2 : adrA (adrW π) π.length = adrW π := by unfold adrA; rw [adrW_mod]; omega
  rw [h2] at h1
  refine numW_inj π.length _ _ (wayA_len _ _) rfl ?_
  unfold adrW at h1
  rw [wayA_len] at h1
  have hp : (2 : Int) ^ (32 - π.length) ≠ 0 := by have : (0 : Int) < 2 ^ (32 - π.length) := Int.pow_pos (by decide); omega
  have := Int.eq_of_mul_eq_mul_right hp h1
  have h3 : adrW π = (numW π : Int) * 2 ^ (32 - π.length) := rfl
  rw [← h3] at this
  omega
def ownW (m : Way → Option Int) (π : Way) : List S34 := match m π with | some _ => [prefW π] | none => []
theorem enum_step (m : Way → Option Int) (π : Way) (h : π.length < 32) : (enumW m (33 - π.length) π).map (·.f0) = ownW m π ++ ((enumW m (33 - (π ++ [false]).length) (π ++ [false])).map (·.f0) ++ (enumW m (33 - (π ++ [true]).length) (π ++ [true])).map (·.f0)) := by
  obtain ⟨d, hd⟩ : ∃ d, d = 32 - π.length := ⟨_, rfl⟩
  rw [show 33 - π.length = d + 1 by omega, show 33 - (π ++ [false]).length = d by simp; omega, show 33 - (π ++ [true]).length = d by simp; omega]
  simp only [enumW, ownW, List.map_append]
  cases m π <;> rfl
theorem enum_whole (m : Way → Option Int) (π : Way) (h : π.length = 32) : (enumW m (33 - π.length) π).map (·.f0) = ownW m π := by
  rw [show 33 - π.length = 0 + 1 by omega]
  simp only [enumW, ownW, List.map_append]
  cases m π <;> rfl
theorem enum_sub (m : Way → Option Int) : ∀ (n : Nat) (π : Way), π.length = n → π.length ≤ 32 → (enumW m (33 - π.length) π).length ≤ (enumW m 33 []).length := by
  intro n
  induction n with
  | zero => intro π h _; rw [List.length_eq_zero_iff.1 h]; exact Nat.le_refl _
  | succ n ih =>
    intro π h hle
    rcases List.eq_nil_or_concat π with rfl | ⟨π', b, rfl⟩
    · simp at h
    rw [List.concat_eq_append] at *
    have hl : π'.length = n := by simpa using h
    refine Nat.le_trans ?_ (ih π' hl (by omega))
    have e := congrArg List.length (enum_step m π' (by omega))
    simp only [List.length_append, List.length_map] at e
    rw [e]
    simp only [List.length_append, List.length_singleton]
    cases b <;> simp <;> omega
theorem below_w (w : World) (bt : Nat) (ownT : Nat → Prop) (n : Int) (m : Way → Option Int) (l : List S43) (hT : Tri kI w bt ownT n m) (hS : ∀ b, ownT b → b < w.heap.size) (hR : Rel m l) (hl : l.length ≤ 100) (π : Way) (hπ : π.length ≤ 32) :
    Calls Try.prog 26 #[.pointer (some ⟨bt, 0, none⟩), .agg #[.int .u32 (adrW π), .int .i64 (π.length : Int)]] w fun e w' => ∃ v : Value, e = .returned v ∧ Kd.R k34 34 w' w.heap.size (fun _ => True) v ((enumW m (33 - π.length) π).map (·.f0)) ∧ Below w.heap.size w w' := by
  have h := below_calls w bt ownT n m l hT hS hR hl (adrW π) π.length (adrW_isA π hπ) hπ (adrW_may π hπ) (by rw [wayA_adrW π hπ]) (by rw [wayA_adrW π hπ]; exact Nat.le_trans (enum_sub m _ π rfl hπ) (by rw [enum_rel hR]; exact hl))
  rw [wayA_adrW π hπ] at h
  exact h
theorem may_way (a b : Int) (ha : isA a) (hM : addr_May.f a b = some true) : ∃ π : Way, π.length ≤ 32 ∧ a = adrW π ∧ b = (π.length : Int) ∧ wayA a b.toNat = π := by
  have hb := may_bits hM
  have hok : okP ⟨a, b⟩ := ⟨ha, by rw [may_is _ _ ha] at hM; exact Option.some.inj hM⟩
  have hp := okP_pref hok
  refine ⟨wayA a b.toNat, by rw [wayA_len]; omega, ?_, by rw [wayA_len]; omega, rfl⟩
  exact (congrArg S34.f0 hp).symm
theorem same34_ev (l : List S34) (hl : l.length ≤ 1000000) : Evt (fun k => whirligigref01_Same.f k l l) true := by
  unfold whirligigref01_Same.f
  refine Evt.ite_pos (by first | rfl | trivial) ?_
  have key : ∀ (d : Nat) (i : Int), 0 ≤ i → i ≤ l.length → l.length - i = d → Evt (fun k => whirligigref01_Same.l0 k l l i) true := by
    intro d
    induction d with
    | zero =>
      intro i h0 h1 hd
      refine Evt.step ?_
      simp only [whirligigref01_Same.l0]
      exact Evt.ite_neg (by omega) (Evt.of fun k => rfl)
    | succ d ih =>
      intro i h0 h1 hd
      refine Evt.step ?_
      simp only [whirligigref01_Same.l0]
      have := ih (i + 1) (by omega) (by omega) (by omega)
      refine Evt.ite_pos (by omega) (Evt.ite_pos h0 (Evt.ite_pos (by omega) (Evt.ite_neg (by simp) ?_)))
      rw [wrap64_in _ (by omega) (by omega)]
      exact this
  exact key l.length 0 (by omega) (by omega) (by omega)
/-- two rows of one list are the same -/
theorem same_rows {w : World} {A1 A2 : Option Addr} {n1 c1 n2 c2 b1 b2 : Nat} {E P : List S34} {ok1 ok2 : Nat → Prop} (h1 : Kd.R k34 34 w b1 ok1 (.slice A1 n1 c1) E) (h2 : Kd.R k34 34 w b2 ok2 (.slice A2 n2 c2) P) (he : E = P) (hl : E.length ≤ 1000000) :
    Calls Try.prog 28 #[.slice A1 n1 c1, .slice A2 n2 c2] w fun e w' => e = .returned (.bool true) ∧ Drawn0 w w' := by
  subst he
  obtain ⟨a1, a2, a3⟩ := Kd.R_reads' h1
  obtain ⟨b1, b2, b3⟩ := Kd.R_reads' h2
  obtain ⟨k, hk, _⟩ := Evt.two (same34_ev E hl) (same34_ev E hl)
  subst a1 b1
  exact whirligigref01_Same.calls k A1 c1 E A2 c2 E true w a3 a2 b3 b2 hk
end Go.Proofs.Ytnihacajjpcjeaa

end
section
namespace Go.Proofs.Ytnihacajjpcjeaa
open Go.RowKit Go.Proofs.Ytnihacajjpcjeaa.P Go.Proofs.YtnihacajjpcjeaaW.PrintWords Go.Proofs.YtnihacajjpcjeaaW.PrintLast Go.Proofs.YtnihacajjpcjeaaW.PrintMore
set_option linter.unusedVariables false
set_option linter.unusedSimpArgs false

set_option maxHeartbeats 16000000 in
set_option maxRecDepth 100000 in
theorem parts_calls (w : World) (A0 : Option Addr) (c0 : Nat) (l0 : List S61) (hr0 : Kd.C k61 w A0 l0.length l0) (hc0 : l0.length ≤ c0) (hok : ∀ x ∈ l0, isA x.f2.f0) (a b stop : Int) (ha : isA a) (k : Nat) (r : Bool) (hM : addr_May.f a b = some r) (hM2 : whirligigref01_May.f k a b = some r) :
    Calls Try.prog 6 #[.slice A0 l0.length c0, .agg #[.int .u32 a, .int .i64 b], .int .i64 stop] w fun e w' => e = .returned (.bool true) ∧ Below w.heap.size w w' := by
  have HR0 := mkHid hr0
  have HOK := mkHid hok
  have HA := mkHid ha
  have HM := mkHid hM
  have HM2 := mkHid hM2
  clear hr0 hok ha hM hM2
  obtain ⟨S1, hS1⟩ : ∃ S1, S1 = w.heap.size + 1 := ⟨_, rfl⟩
  obtain ⟨W2, hW2⟩ : ∃ W2, W2 = (w.alloc (.cells #[.int .u32 a, .int .i64 b] 34)).alloc (.cells #[.int .i64 stop] 3) := ⟨_, rfl⟩
  have HB2 : Hid (Below w.heap.size w W2) := by rw [hW2]; exact ((Below.refl w.heap.size w).alloc (Nat.le_refl _) _).alloc (by simp) _
  have p0 : W2.cell? ⟨w.heap.size, 0, none⟩ = some (.int .u32 a) := by rw [hW2]; go_simp
  have p1 : W2.cell? ⟨w.heap.size, 1, none⟩ = some (.int .i64 b) := by rw [hW2]; go_simp
  have hcs : W2.heap[S1]? = some (.cells #[.int .i64 stop] 3 (0, 0)) := by
    rw [hW2, hS1]
    have := heap_alloc_new (w.alloc (.cells #[.int .u32 a, .int .i64 b] 34)) (.cells #[.int .i64 stop] 3)
    rw [World.size_alloc] at this
    exact this
  go_enter Try.func6, Try.ntmps6
  go_upto_region 1 with fail
  rw [← hS1, ← hW2]
  have hsS : Hid (S1 = w.heap.size + 1) := hS1
  clear hS1 hW2
  go_wp2_with fail
  refine (made_calls W2 A0 c0 l0 (Kd.C_below HR0.out HB2.out) hc0 HOK.out).mono ?_
  rintro e w3 ⟨bt, own, n, m, v, l, rfl, hSO, hl⟩
  have HSO := mkHid hSO
  have x0 := cell_keep hSO.below p0
  have x1 := cell_keep hSO.below p1
  have xs : w3.heap[S1]? = some (.cells #[.int .i64 stop] 3 (0, 0)) := (hSO.below.block S1 (blk_lt hcs)).trans hcs
  obtain ⟨A, c, hv⟩ := Kd.R_slice hSO.row
  subst hv
  have hn := hSO.len
  have hz3 := hSO.below.size
  have hS1l := blk_lt hcs
  clear hSO p0 p1 hcs
  obtain ⟨ln, hln⟩ : ∃ ln, ln = l.length := ⟨_, rfl⟩
  have HLN := mkHid hln
  rw [← hln] at hn hl HSO ⊢
  subst hn
  clear hln
  go_upto_region 3 with fail
  obtain ⟨cn, hcn⟩ : ∃ cn, cn = w3.heap.size := ⟨_, rfl⟩
  obtain ⟨w4, hw4⟩ : ∃ w4, w4 = w3.alloc (.cells #[.int .i64 0] 3) := ⟨_, rfl⟩
  have hb4 : Below w3.heap.size w3 w4 := by rw [hw4]; exact Below.alloc (Below.refl _ w3) (Nat.le_refl _) _
  have hI4 : InvN cn S1 stop w4 (fun b => b = cn) 0 := ⟨by rw [hw4, hcn]; exact heap_alloc_new _ _, (hb4.block S1 (blk_lt xs)).trans xs, by have := blk_lt xs; omega, by omega, fun b => Iff.rfl⟩
  have HI4 := mkHid hI4
  have HS4 := mkHid (HSO.out.read hb4)
  have y0 := cell_keep hb4 x0
  have y1 := cell_keep hb4 x1
  have hdis : Hid (∀ b, b = cn → ¬ own b) := fun b hb ho => by have := (HSO.out.ownb b ho).2; omega
  have hvb : Hid (∀ k, (Value.slice A ln c).ownBlock = some k → ¬ k = cn) := fun k hk he => by have := Kd.R_lt HSO.out.row k hk; omega
  have hcnl : Hid (cn = w3.heap.size) := hcn
  rw [← hw4, ← hcn]
  clear hw4 hcn hb4 hI4 x0 x1 HSO
  go_wp2_with fail
  refine (each_calls 25 #[.pointer (some ⟨cn, 0, none⟩), .pointer (some ⟨S1, 0, none⟩)] (stopS stop) (InvN cn S1 stop) (fun s => s.toNat) (stopS_does cn S1 stop) w4 bt own _ m l HS4.out.tri HS4.out.rel (fun b => b = cn) 0 HI4.out hdis.out (by rw [← HLN.out]; simp; omega)).mono ?_
  rintro e w5 ⟨ownE, rfl, hI5, hoE, hkE⟩
  rw [run_stop, ← HLN.out] at hI5
  have HS5 := mkHid (HS4.out.kbn hkE (fun b hb => by have h2 : b = cn := hb; have := hcnl.out; omega) hdis.out hvb.out)
  have x0 := hkE.cell y0 (fun h => by have h2 : w.heap.size = cn := h; have := hcnl.out; have := hsS.out; omega)
  have x1 := hkE.cell y1 (fun h => by have h2 : w.heap.size = cn := h; have := hcnl.out; have := hsS.out; omega)
  obtain ⟨i1, i2, _, _, _⟩ := hI5
  have z1 : w5.cell? ⟨cn, 0, none⟩ = some (.int .i64 _) := blk_cell i1 0
  have z2 : w5.cell? ⟨S1, 0, none⟩ = some (.int .i64 stop) := blk_cell i2 0
  clear i1 i2 hoE hkE y0 y1 HS4 HI4 hdis hvb xs
  obtain ⟨nv, hnv⟩ : ∃ nv : Int, nv = (if 0 + 1 ≤ stop ∧ stop ≤ 0 + (ln : Int) then stop else 0 + (ln : Int)) := ⟨_, rfl⟩
  rw [← hnv] at z1
  have h3 : ((1 : Int) ≤ stop ∧ stop < (ln : Int) ∧ nv = stop) ∨ ((1 : Int) ≤ stop ∧ ¬ stop < (ln : Int) ∧ nv = (ln : Int)) ∨ (¬ (1 : Int) ≤ stop ∧ nv = (ln : Int)) := by
    rw [hnv]
    split <;> omega
  clear hnv
  go_upto_region 5 with fail
  go_cut [32] (fun v32 wx => ∃ bb : Bool, v32 = .bool bb ∧ w5 = wx ∧ (bb = true → nv = stop) ∧ (bb = false → nv = (ln : Int)))
  case first =>
    rcases h3 with ⟨hs1, hs2, hnv⟩ | ⟨hs1, hs2, hnv⟩ | ⟨hs1, hnv⟩
    case' inl =>
      have HV := mkHid hnv
      have q1 : decide ((1 : Int) ≤ stop) = true := decide_eq_true hs1
      have q2 : decide (stop < (ln : Int)) = true := decide_eq_true hs2
      clear hnv
      go_wp2_with fail
      go_meet
      exact ⟨true, rfl, rfl, fun _ => HV.out, fun h => by cases h⟩
    case' inr.inl =>
      have HV := mkHid hnv
      have q1 : decide ((1 : Int) ≤ stop) = true := decide_eq_true hs1
      have q2 : decide (stop < (ln : Int)) = false := decide_eq_false (by omega)
      clear hnv
      go_wp2_with fail
      go_meet
      exact ⟨false, rfl, rfl, fun h => (by cases h), fun _ => HV.out⟩
    case' inr.inr =>
      have HV := mkHid hnv
      have q1 : decide ((1 : Int) ≤ stop) = false := decide_eq_false (by omega)
      clear hnv
      go_wp2_with fail
      go_meet
      exact ⟨false, rfl, rfl, fun h => (by cases h), fun _ => HV.out⟩
  case rest =>
  obtain ⟨bb, rfl, rfl, hb1, hb2⟩ := hcut
  go_upto_if 32 with (fail)
  go_cut [10] (fun v10 wx => v10 = .int .i64 nv ∧ w5 = wx)
  case first =>
    cases bb
    · have HV := mkHid (hb2 rfl)
      clear hb1 hb2
      go_wp2_with fail
      go_meet
      exact ⟨congrArg (Value.int .i64) HV.out.symm, rfl⟩
    · have HV := mkHid (hb1 rfl)
      clear hb1 hb2
      go_wp2_with fail
      go_meet
      exact ⟨congrArg (Value.int .i64) HV.out.symm, rfl⟩
  case rest =>
  obtain ⟨rfl, rfl⟩ := hcut
  clear h3 z2
  cases r with
  | false =>
    all_goals
      go_upto_region 9 with fail
      clear z1
      go_wp2_with fail
      refine (below_not _ bt a b HM.out).mono ?_
      rintro e w6 ⟨rfl, hb6⟩
      have HB6 : Hid (Below W2.heap.size W2 w6) := HS5.out.below.trans (hb6.mono HS5.out.below.size)
      replace x0 := cell_keep hb6 x0
      replace x1 := cell_keep hb6 x1
      clear hb6
      go_wp2_with fail
      refine (whirligigref01_May.calls k a b false w6 HM2.out).mono ?_
      rintro e w7 ⟨rfl, hb7⟩
      have HB7 := mkHid (below_step HB6.out hb7)
      clear hb7 HB6 x0 x1
      go_wp2_with fail
      refine (lives_calls _).mono ?_
      rintro e w8 ⟨rfl, hb8⟩
      have HB8 : Hid (Below w.heap.size w w8) := HB2.out.trans ((below_step HB7.out hb8).mono HB2.out.size)
      clear hb8 HB7
      go_wp2_with fail
      go_ret
      exact ⟨rfl, HB8.out⟩
  | true =>
    obtain ⟨π, hπ, ha, hb, hway⟩ := may_way a b HA.out HM.out
    subst ha hb
    have HW := mkHid hway
    clear hway
    have hcall := mkHid (below_w w5 bt own _ m l HS5.out.tri (fun b hb => (HS5.out.ownb b hb).2) HS5.out.rel (by rw [← HLN.out]; omega) π hπ)
    all_goals
      go_upto_region 9 with fail
      clear z1
      go_wp2_with fail
      refine hcall.out.mono ?_
      rintro e w6 ⟨vb, rfl, hRb, hb6⟩
      have HS6 := mkHid (HS5.out.read hb6)
      obtain ⟨E, hE⟩ : ∃ E, E = (enumW m (33 - π.length) π).map (·.f0) := ⟨_, rfl⟩
      rw [← hE] at hRb
      have HE := mkHid hE
      obtain ⟨Ab, cb, hvb⟩ := Kd.R_slice hRb
      obtain ⟨nE, hnE⟩ : ∃ nE, nE = E.length := ⟨_, rfl⟩
      rw [← hnE] at hvb
      have HNE := mkHid hnE
      subst hvb
      have HRb := mkHid hRb
      clear hE hnE
      replace x0 := cell_keep hb6 x0
      replace x1 := cell_keep hb6 x1
      clear hRb hb6 hcall
      go_wp2_with fail
      refine (whirligigref01_May.calls k _ _ true w6 HM2.out).mono ?_
      rintro e w7 ⟨rfl, hb7⟩
      have HS7 := mkHid (HS6.out.read hb7)
      have HRb7 := mkHid (Kd.R_below HRb.out hb7)
      replace x0 := cell_keep hb7 x0
      replace x1 := cell_keep hb7 x1
      clear hb7 HS6 HRb
      go_wp2_with fail
      refine (get_calls w7 bt own _ m HS7.out.tri _ _ true HA.out.1 (by have := HA.out.2; omega) HM.out).mono ?_
      rintro e w8 ⟨rfl, hb8⟩
      have HS8 := mkHid (HS7.out.read hb8)
      have HRb8 := mkHid (Kd.R_below HRb7.out hb8)
      replace x0 := cell_keep hb8 x0
      replace x1 := cell_keep hb8 x1
      clear hb8 HS7 HRb7
      rw [show look true m (adrW π) (π.length : Int) = m π by unfold look; rw [if_pos rfl, HW.out]]
      obtain ⟨B8, hB8⟩ : ∃ B8, B8 = w8.heap.size := ⟨_, rfl⟩
      have hB8' : Hid (B8 = w8.heap.size) := hB8
      clear hB8
      cases hm : m π
      case' none =>
        have HP : Hid (Kd.R k34 34 w8 B8 (fun _ => True) (.slice none 0 0) (ownW m π)) := by unfold Hid ownW; rw [hm]; exact Kd.R_nil _ _ _ _ _
        go_upto_region 16 with fail
        obtain ⟨w9, hw9⟩ : ∃ w9, w9 = w8 := ⟨_, rfl⟩
        have HB9 : Hid (Below B8 w8 w9) := by rw [hw9]; exact Below.refl _ _
        rw [← hw9] at HP ⊢
        clear hw9
      case' some vm =>
        go_upto_region 16 with (at_builtin; refine Kd.R_append k34 (w0 := w8) B8 ?a1 (.tmp 56) (.tmp 58) 44 34 (.agg #[(.int .u32 0), (.int .i64 0)]) 16 ?a2 ?a3 ?a4 ?a5 ?a6 ?a7 (.slice none 0 0) [] (prefW π) [.int .u32 (adrW π), .int .i64 (π.length : Int)] (fun _ => True) (fun _ => False) ?a8 ?a9 ?aP ?aE ?aF ?aO ?aB ?aS ?aL ?_; (case a1 => rfl); (case a2 => rfl); (case a3 => exact Try.underlying44); (case a4 => exact info34); (case a5 => rfl); (case a6 => decide); (case a7 => omega); (case a8 => rfl); (case a9 => rfl); (case aP => exact k34_mkM _ _ _ (prefW π)); (case aE => exact fun _ h => h.elim); (case aF => exact fun _ _ => trivial); (case aO => exact Kd.R_nil _ _ _ _ _); (case aB => exact Below.refl _ _); (case aS => exact Nat.le_of_eq hB8'.out); (case aL => decide); intro v9 w9 hR9 hB9 hg9 hat9; have HB9 := mkHid hB9; obtain ⟨A9, c9, h9⟩ := Kd.R_slice hR9; have h9' : v9 = .slice A9 1 c9 := h9; clear h9; subst h9'; have HP0 := mkHid hR9; clear hR9 hB9 hg9 hat9)
        have HP : Hid (Kd.R k34 34 w9 B8 (fun _ => True) (.slice A9 1 c9) (ownW m π)) := by unfold Hid ownW; rw [hm]; exact HP0.out
        clear HP0
      all_goals
        have X0 := mkHid x0
        have X1 := mkHid x1
        replace x0 := cell_keep (show Below w8.heap.size w8 w9 by rw [← hB8'.out]; exact HB9.out) x0
        replace x1 := cell_keep (show Below w8.heap.size w8 w9 by rw [← hB8'.out]; exact HB9.out) x1
        clear hm
        by_cases hlt : π.length < 32
        · go_upto_region 18 with fail
          obtain ⟨hf, hhf⟩ : ∃ hf : Int, hf = 2 ^ (31 - π.length) % 4294967296 := ⟨_, rfl⟩
          have hpos : (0 : Int) < 2 ^ (31 - π.length) := Int.pow_pos (by decide)
          have eT0 : adrW (π ++ [true]) = adrW π + 2 ^ (31 - π.length) := by rw [adrW_snoc π true hlt]; simp
          have hTb := adrW_lt (π ++ [true]) (by simp; omega)
          rw [eT0] at hTb
          have hal := (adrW_lt π hπ).1
          have hf1 : hf = 2 ^ (31 - π.length) := by rw [hhf]; exact Int.emod_eq_of_lt (by omega) (by omega)
          rw [← hf1] at hTb eT0 hpos
          have eT : Hid (adrW (π ++ [true]) = adrW π + hf) := eT0
          have eF : Hid (adrW (π ++ [false]) = adrW π) := by unfold Hid; rw [adrW_snoc π false hlt]; simp
          have eL : Hid (∀ b, ((π ++ [b]).length : Int) = (π.length : Int) + 1) := fun b => by simp
          have hf0 : 0 ≤ hf := by omega
          have hwr : IntKind.u32.wrap (adrW π + hf) = adrW π + hf := IntWalk.u32_in _ (by omega)
          rw [← hhf]
          clear hhf hf1 eT0
          have HS9 := mkHid (HS8.out.read (show Below w8.heap.size w8 w9 by rw [← hB8'.out]; exact HB9.out))
          have hsz9 : Hid (B8 ≤ w9.heap.size) := by unfold Hid; rw [hB8'.out]; exact (show Below B8 w8 w9 from HB9.out).size
          obtain ⟨L0, hL0⟩ : ∃ L0, L0 = (enumW m (33 - (π ++ [false]).length) (π ++ [false])).map (·.f0) := ⟨_, rfl⟩
          obtain ⟨L1, hL1⟩ : ∃ L1, L1 = (enumW m (33 - (π ++ [true]).length) (π ++ [true])).map (·.f0) := ⟨_, rfl⟩
          have HEall : Hid (E = (ownW m π ++ L0) ++ L1) := by unfold Hid; rw [HE.out, hL0, hL1, enum_step m π hlt, List.append_assoc]
          have hc0 : Hid (∀ wx, Below w9.heap.size w9 wx → Calls Try.prog 26 #[.pointer (some ⟨bt, 0, none⟩), .agg #[.int .u32 (adrW π), .int .i64 ((π.length : Int) + 1)]] wx fun e w' => ∃ v : Value, e = .returned v ∧ Kd.R k34 34 w' wx.heap.size (fun _ => True) v L0 ∧ Below wx.heap.size wx w') := fun wx hb => by
            have h := below_w wx bt own _ m l (HS9.out.read hb).tri (fun b hb' => ((HS9.out.read hb).ownb b hb').2) HS9.out.rel (by rw [← HLN.out]; omega) (π ++ [false]) (by simp; omega)
            rw [eF.out, eL.out, ← hL0] at h
            exact h
          have hc1 : Hid (∀ wx, Below B8 w8 wx → Calls Try.prog 26 #[.pointer (some ⟨bt, 0, none⟩), .agg #[.int .u32 (adrW π + hf), .int .i64 ((π.length : Int) + 1)]] wx fun e w' => ∃ v : Value, e = .returned v ∧ Kd.R k34 34 w' wx.heap.size (fun _ => True) v L1 ∧ Below wx.heap.size wx w') := fun wx hb => by
            have hb8 : Below w8.heap.size w8 wx := by rw [← hB8'.out]; exact hb
            have h := below_w wx bt own _ m l (HS8.out.read hb8).tri (fun b hb' => ((HS8.out.read hb8).ownb b hb').2) HS8.out.rel (by rw [← HLN.out]; omega) (π ++ [true]) (by simp; omega)
            rw [eT.out, eL.out, ← hL1] at h
            exact h
          obtain ⟨lo, hlo⟩ : ∃ k, Hid ((ownW m π).length = k) := ⟨_, rfl⟩
          obtain ⟨l00, hl00⟩ : ∃ k, Hid (L0.length = k) := ⟨_, rfl⟩
          obtain ⟨l01, hl01⟩ : ∃ k, Hid (L1.length = k) := ⟨_, rfl⟩
          have hEl : E.length ≤ 30 := by rw [HE.out, List.length_map]; exact Nat.le_trans (enum_sub m _ π rfl hπ) (by rw [enum_rel HS9.out.rel, ← HLN.out]; omega)
          have hsum : lo + l00 + l01 ≤ 30 := by
            have h := HEall.out
            rw [h, List.length_append, List.length_append, hlo.out, hl00.out, hl01.out] at hEl
            exact hEl
          clear hL0 hL1
          go_wp2_with fail
          refine (hc0.out _ (Below.refl _ _)).mono ?_
          rintro e w10 ⟨vL, rfl, hRL, hbL⟩
          have HBx : Hid (Below B8 w8 w10) := HB9.out.trans (hbL.mono hsz9.out)
          have HSZX : Hid (B8 ≤ w10.heap.size) := Nat.le_trans hsz9.out hbL.size
          have HPx := mkHid (Kd.R_below HP.out hbL)
          have HRL : Hid (Kd.R k34 34 w10 B8 (fun _ => True) vL L0) := Kd.R_lower hRL hsz9.out
          clear hRL hbL x0 x1 hc0
          obtain ⟨AL, cL, hvL⟩ := Kd.R_slice HRL.out
          subst hvL
          go_upto_region 19 with (at_builtin; refine Kd.R_append_rows k34 (w0 := w8) B8 rfl (.tmp 68) (.tmp 76) 44 34 (.agg #[(.int .u32 0), (.int .i64 0)]) 16 rfl Try.underlying44 info34 rfl (by decide) (by omega) _ _ L0 _ _ _ (fun _ => True) (fun _ => False) rfl rfl HPx.out (Kd.R_reads' HRL.out).2.2 (fun _ _ h => h) (fun _ h => h.elim) (fun _ _ => trivial) HBx.out HSZX.out ?aL ?_; (case aL => (rw [show (List.length (ownW m π)) = lo from hlo.out, show L0.length = l00 from hl00.out]; omega)); intro v1 w11 hR hB hg hat; have HRw11 := mkHid hR; have HBw11 := mkHid hB; obtain ⟨Aw11, cw11, hv1⟩ := Kd.R_slice hR; obtain ⟨nw11, hnw11⟩ : ∃ n, n = (ownW m π ++ L0).length := ⟨_, rfl⟩; rw [← hnw11] at hv1; subst hv1; clear hR hB hg hat hnw11 HPx HRL HBx HSZX)
          have X2 := cell_keep (show Below w8.heap.size w8 w11 by rw [← hB8'.out]; exact HBw11.out) X0.out
          have X3 := cell_keep (show Below w8.heap.size w8 w11 by rw [← hB8'.out]; exact HBw11.out) X1.out
          have hsz11 : Hid (B8 ≤ w11.heap.size) := by unfold Hid; rw [hB8'.out]; exact (show Below B8 w8 w11 from HBw11.out).size
          go_wp2_with fail
          refine (hc1.out _ HBw11.out).mono ?_
          rintro e w12 ⟨vL, rfl, hRL, hbL⟩
          have HBx : Hid (Below B8 w8 w12) := HBw11.out.trans (hbL.mono hsz11.out)
          have HSZX : Hid (B8 ≤ w12.heap.size) := Nat.le_trans hsz11.out hbL.size
          have HPx := mkHid (Kd.R_below HRw11.out hbL)
          have HRL : Hid (Kd.R k34 34 w12 B8 (fun _ => True) vL L1) := Kd.R_lower hRL hsz11.out
          clear hRL hbL X2 X3 hc1
          obtain ⟨AL, cL, hvL⟩ := Kd.R_slice HRL.out
          subst hvL
          go_upto_region 20 with (at_builtin; refine Kd.R_append_rows k34 (w0 := w8) B8 rfl (.tmp 78) (.tmp 88) 44 34 (.agg #[(.int .u32 0), (.int .i64 0)]) 16 rfl Try.underlying44 info34 rfl (by decide) (by omega) _ _ L1 _ _ _ (fun _ => True) (fun _ => False) rfl rfl HPx.out (Kd.R_reads' HRL.out).2.2 (fun _ _ h => h) (fun _ h => h.elim) (fun _ _ => trivial) HBx.out HSZX.out ?aL ?_; (case aL => (rw [List.length_append, show (List.length (ownW m π)) = lo from hlo.out, show L0.length = l00 from hl00.out, show L1.length = l01 from hl01.out]; omega)); intro v1 w13 hR hB hg hat; have HRw13 := mkHid hR; have HBw13 := mkHid hB; obtain ⟨Aw13, cw13, hv1⟩ := Kd.R_slice hR; obtain ⟨nw13, hnw13⟩ : ∃ n, n = (ownW m π ++ L0 ++ L1).length := ⟨_, rfl⟩; rw [← hnw13] at hv1; subst hv1; clear hR hB hg hat hnw13 HPx HRL HBx HSZX)
          have hb13 : Below w8.heap.size w8 w13 := by rw [← hB8'.out]; exact HBw13.out
          have HRb9 := mkHid (Kd.R_below HRb8.out hb13)
          have HS13 := mkHid (HS8.out.read hb13)
          have hsame := mkHid (same_rows HRb9.out HRw13.out HEall.out (by omega))
          clear hb13
          go_wp2_with fail
          refine hsame.out.mono ?_
          rintro e w14 ⟨rfl, ⟨nd, rfl⟩⟩
          go_wp2_with fail
          refine (lives_calls _).mono ?_
          rintro e w15 ⟨rfl, hb15⟩
          have HBF : Hid (Below w.heap.size w w15) := HB2.out.trans ((below_step (pw_below_drewN (show Below W2.heap.size W2 w13 from HS13.out.below) _) hb15).mono HB2.out.size)
          clear hb15
          go_wp2_with fail
          go_ret
          exact ⟨rfl, HBF.out⟩
        · have hEP : Hid (E = ownW m π) := by unfold Hid; rw [HE.out]; exact enum_whole m π (by omega)
          have HRb9 := mkHid (Kd.R_below HRb8.out (show Below w8.heap.size w8 w9 by rw [← hB8'.out]; exact HB9.out))
          have HS9 := mkHid (HS8.out.read (show Below w8.heap.size w8 w9 by rw [← hB8'.out]; exact HB9.out))
          have hEl : E.length ≤ 1000000 := by rw [HE.out, List.length_map]; exact Nat.le_trans (enum_sub m _ π rfl hπ) (by rw [enum_rel HS9.out.rel, ← HLN.out]; omega)
          have hsame := mkHid (same_rows HRb9.out HP.out hEP.out hEl)
          go_wp2_with fail
          refine hsame.out.mono ?_
          rintro e w10 ⟨rfl, ⟨nd, rfl⟩⟩
          go_wp2_with fail
          refine (lives_calls _).mono ?_
          rintro e w11 ⟨rfl, hb11⟩
          have HBF : Hid (Below w.heap.size w w11) := HB2.out.trans ((below_step (pw_below_drewN (show Below W2.heap.size W2 w9 from HS9.out.below) _) hb11).mono HB2.out.size)
          clear hb11
          go_wp2_with fail
          go_ret
          exact ⟨rfl, HBF.out⟩
end Go.Proofs.Ytnihacajjpcjeaa

end
section
namespace Go.Proofs.Ytnihacajjpcjeaa.P
open Go.RowKit Go.Proofs.YtnihacajjpcjeaaW.PrintWords Go.Proofs.YtnihacajjpcjeaaW.PrintLast Go.Proofs.YtnihacajjpcjeaaW.PrintMore
attribute [local go_sem] max2_int min2_int max_two min_two max_three min_three max_four min_four   -- for this text's walks alone
set_option linter.unusedVariables false
set_option linter.unusedSimpArgs false

def whirligiglaw06_TrieParts.f (k : Nat) (l0 : List (S61)) (a1_0 : Int) (a1_1 : Int) (a2 : Int) : Option (Bool) := if ((l0.all fun x => decide (0 ≤ x.f2.f0) && decide (x.f2.f0 ≤ 4294967295)) && (decide (0 ≤ a1_0) && decide (a1_0 ≤ 4294967295))) = true then some true else none
theorem whirligiglaw06_TrieParts.calls (k : Nat) (A0 : Option Addr) (c0 : Nat) (l0 : List (S61)) (a1_0 : Int) (a1_1 : Int) (a2 : Int) (r : Bool) (w : World) (hr0 : Kd.C k61 w A0 l0.length l0) (hc0 : l0.length ≤ c0) (h : whirligiglaw06_TrieParts.f k l0 a1_0 a1_1 a2 = some r) :
    Calls Try.prog 6 #[.slice A0 l0.length c0, .agg #[.int .u32 a1_0, .int .i64 a1_1], .int .i64 a2] w fun e w' => e = .returned (.bool r) ∧ Below w.heap.size w w' := by
  unfold whirligiglaw06_TrieParts.f at h
  split at h
  · rename_i hb
    obtain rfl := Option.some.inj h
    simp only [Bool.and_eq_true, List.all_eq_true, decide_eq_true_eq] at hb
    obtain ⟨q, hq⟩ := (refMay_ev a1_0 a1_1 hb.2).ex
    exact parts_calls w A0 c0 l0 hr0 hc0 (fun x hx => hb.1 x hx) a1_0 a1_1 a2 hb.2 q (mayB a1_0 a1_1) (may_is _ _ hb.2) hq
  · cases h

end Go.Proofs.Ytnihacajjpcjeaa.P

end
section
set_option linter.unusedVariables false
set_option linter.unusedSimpArgs false
namespace Go.Proofs.Ytnihacajjpcjeaa
open Go.ChangeShapes Go.WideShapes Go.Proofs.YtnihacajjpcjeaaW.PrintWords Go.Proofs.YtnihacajjpcjeaaW.PrintLast Go.Proofs.YtnihacajjpcjeaaW.PrintMore

/-- the ints of a kind -/
def okI (k : IntKind) (n : Int) : Prop := (Lit.int k n).wf = true
def okL {α : Type} (B : Nat) (ok : α → Prop) (l : List α) : Prop := l.length * B ≤ 140737488351232 ∧ ∀ x, x ∈ l → ok x
theorem okI_u32 {n : Int} (h : okI .u32 n) : 0 ≤ n ∧ n ≤ 4294967295 := by
  unfold okI Lit.wf at h; simp [IntKind.min, IntKind.max, IntKind.bits, IntKind.signed] at h; omega
/-- A reading of a type. -/
structure RV (P : Program) (t : TypeId) (α : Type) (d : Kd α) where
  ok : α → Prop
  sz : P.cellsOf t = d.sz
  opens : ∀ {H : Type} {enc : TypeId × Value → H} {w : World} {base : Nat} {spare : Nat → Bool} {held : Bool} {fuel : Nat} {cs : List Value} {x : DataW H × List MemPlace},
    DataW.trod enc P w base spare held fuel t cs = some x → (x.1.weights P t).all (· ≤ reachBytes) = true → ∃ a, d.K w a cs ∧ ok a
/-- A reading of a stretch of fields. -/
structure RF (P : Program) (fs : List Field) (off : Nat) (α : Type) where
  K : World → α → List Value → Prop
  ok : α → Prop
  opens : ∀ {H : Type} {enc : TypeId × Value → H} {w : World} {base : Nat} {spare : Nat → Bool} {held : Bool} {fuel : Nat} {cs : List Value} {ds : List (DataW H × List MemPlace)}, off ≤ cs.length →
    (∀ f, f ∈ fs → f.offset + P.cellsOf f.type ≤ cs.length) → (∀ (i : Nat) (f : Field), fs[i]? = some f → ∃ y, ds[i]? = some y ∧ DataW.trod enc P w base spare held fuel f.type ((cs.drop f.offset).take (P.cellsOf f.type)) = some y) →
    (DataW.weightsEach P (fs.map (·.type)) (ds.map (·.1))).all (· ≤ reachBytes) = true →
    (fs = [] → cs.length = off) → (∀ f, fs.getLast? = some f → f.offset + P.cellsOf f.type = cs.length) → ∃ a, K w a (cs.drop off) ∧ ok a

section
variable {P : Program} {t e : TypeId} {α β : Type} {d : Kd α}
def rInt (k : IntKind) (ht : P.underlying t = some (.int k)) (hc : P.cellsOf t = 1) : RV P t Int (Kd.int k) where
  ok := okI k
  sz := hc
  opens := fun h _ => by obtain ⟨n, h1, _, h3⟩ := DataW.trod_int ht h; exact ⟨n, h1, h3⟩
theorem RV.list_of_lt {n : Nat} {p : Nat → α → Prop} (h : ∀ i, i < n → ∃ x, p i x) : ∃ l : List α, l.length = n ∧ ∀ i x, l[i]? = some x → p i x := by
  rcases Nat.eq_zero_or_pos n with rfl | hn
  · exact ⟨[], rfl, fun i x hx => by simp at hx⟩
  · haveI : Inhabited α := ⟨Classical.choose (h 0 hn)⟩
    obtain ⟨f, hf⟩ := Go.Deep.choose_lt h
    refine ⟨(List.range n).map f, by simp, fun i x hx => ?_⟩
    have hi : i < n := by have := (List.getElem?_eq_some_iff.1 hx).1; simpa using this
    have e : ((List.range n).map f)[i]? = some (f i) := by simp [hi]
    rw [e] at hx
    cases hx
    exact hf i hi
theorem add_add_ (a : Addr) (p q : Nat) : (a.add p).add q = a.add (p + q) := by
  unfold Addr.add
  by_cases hp : p = 0
  · subst hp; simp
  · by_cases hq : q = 0
    · subst hq; simp [hp]
    · have : p + q ≠ 0 := by omega
      simp [hp, hq, this, Nat.add_assoc]
theorem weights_elem {H : Type} {P : Program} {e : TypeId} {l : List (DataW H)} {B : Nat} (h : (DataW.weightsAll P e l).all (· ≤ B) = true) {x : DataW H} (hx : x ∈ l) : (x.weights P e).all (· ≤ B) = true := by
  induction l with
  | nil => simp at hx
  | cons y l ih =>
    rw [DataW.weightsAll, List.all_append, Bool.and_eq_true] at h
    rcases List.mem_cons.1 hx with rfl | hx
    · exact h.1
    · exact ih h.2 hx
def rSlice {B : Nat} (ht : P.underlying t = some (.slice e)) (hc : P.cellsOf t = 1) (hB : P.bytesOf e = B) (hp : 0 < d.sz) (hB1 : 1 ≤ B) (V : RV P e α d) : RV P t (List α) (Kd.slice e d) where
  ok := okL B V.ok
  sz := hc
  opens := fun {H enc w base spare held fuel cs x} h hw => by
    rcases Go.Deep.open_slice ht h with ⟨h0, _⟩ | ⟨a, len, cap, m, f, D, Pl, h1, hb, hl, hm, hmm, hx, hcc⟩
    · exact ⟨[], ⟨none, 0, h0, Nat.le_refl _, ⟨rfl, by simp, fun h => absurd h (by simp)⟩⟩, by simp [okL]⟩
    · have hlm : len ≤ m := by rw [hmm]; split <;> omega
      have hw' := hw
      rw [hx] at hw'
      simp only [DataW.weights, ht, List.all_cons, List.length_map, List.length_range, Bool.and_eq_true, List.all_append] at hw'
      obtain ⟨w1, w2, _⟩ := hw'
      have w1' : (len + (m - len)) * B ≤ 140737488351232 := by rw [← hB]; exact of_decide_eq_true w1
      have one : ∀ i, i < len → ∃ x, ∃ cs', cs'.length = d.sz ∧ (∀ j u, cs'[j]? = some u → w.cell? (a.add (i * d.sz + j)) = some u) ∧ d.K w x cs' ∧ V.ok x := by
        intro i hi
        obtain ⟨cs', k1, k2⟩ := hcc i (by omega)
        obtain ⟨_, hlen, hcell⟩ := World.cells?_some k1
        have hwi := weights_elem w2 (List.mem_map.2 ⟨i, List.mem_range.2 hi, rfl⟩)
        obtain ⟨y, hy, hok⟩ := V.opens k2 hwi
        rw [V.sz] at hlen hcell
        refine ⟨y, cs', hlen, fun j u hj => ?_, hy, hok⟩
        have hj' : j < d.sz := by have := (List.getElem?_eq_some_iff.1 hj).1; omega
        have := hcell j hj'
        rw [add_add_, hj] at this
        exact this
      obtain ⟨l, hl', hall⟩ := RV.list_of_lt one
      have hlb : len ≤ 9223372036854775807 := by
        have : len * 1 ≤ (len + (m - len)) * B := Nat.mul_le_mul (by omega) hB1
        omega
      refine ⟨l, ⟨some a, cap, by rw [h1, hl'], by omega, ⟨rfl, by omega, fun _ => ⟨a, rfl, fun j p hj => ?_⟩⟩⟩, ?_, ?_⟩
      · obtain ⟨cs', q1, q2, q3, _⟩ := hall j p hj
        exact ⟨cs', q1, q3, q2⟩
      · rw [hl']
        exact Nat.le_trans (Nat.mul_le_mul_right _ (by omega)) w1'
      · intro x hx
        obtain ⟨i, hi⟩ := List.getElem?_of_mem hx
        obtain ⟨_, _, _, _, q⟩ := hall i x hi
        exact q
def fNil (off : Nat) : RF P [] off Unit where
  K := fun _ _ cs => cs = []
  ok := fun _ => True
  opens := fun _ _ _ _ h0 _ => ⟨(), by have := h0 rfl; simp [← this], trivial⟩
def fCons (f : Field) {fs : List Field} {off n : Nat} (ho : f.offset = off) (hn : P.cellsOf f.type = n) {d : Kd α} (V : RV P f.type α d) (F : RF P fs (off + n) β) : RF P (f :: fs) off (α × β) where
  K := fun w x cs => ∃ c c', cs = c ++ c' ∧ d.K w x.1 c ∧ F.K w x.2 c'
  ok := fun x => V.ok x.1 ∧ F.ok x.2
  opens := fun {H enc w base spare held fuel cs ds} hoff hle hy hw h0 hlast => by
    obtain ⟨y, hy1, hy0⟩ := hy 0 f rfl
    obtain ⟨ds, rfl⟩ : ∃ l, ds = y :: l := by
      cases ds with
      | nil => simp at hy1
      | cons z l => simp at hy1; subst hy1; exact ⟨l, rfl⟩
    rw [List.map_cons, List.map_cons, DataW.weightsEach, List.all_append, Bool.and_eq_true] at hw
    obtain ⟨a, ha, hka⟩ := V.opens hy0 hw.1
    have hl0 := hle f (by simp)
    rw [ho, hn] at hl0
    obtain ⟨b, hb, hkb⟩ := F.opens (cs := cs) (ds := ds) hl0 (fun g hg => hle g (by simp [hg])) (fun i g hg => hy (i + 1) g hg) hw.2 (fun h => by subst h; have := hlast f (by simp); rw [ho, hn] at this; exact this.symm)
      (fun g hg => hlast g (by cases fs with | nil => simp at hg | cons z zs => rw [List.getLast?_cons_cons]; exact hg))
    refine ⟨(a, b), ⟨(cs.drop off).take n, cs.drop (off + n), ?_, ?_, hb⟩, hka, hkb⟩
    · rw [← List.drop_drop, List.take_append_drop]
    · rw [ho, hn] at ha; exact ha
/-- the struct's cells end with its last field's -/
def fitsB (P : Program) (t : TypeId) (fs : List Field) : Bool := fs.all (fun f => decide (f.offset + P.cellsOf f.type ≤ P.cellsOf t)) && (match fs.getLast? with | some f => f.offset + P.cellsOf f.type == P.cellsOf t | none => P.cellsOf t == 0)
def rStruct {fs : Array Field} (ht : P.underlying t = some (.struct fs)) (hf : fitsB P t fs.toList = true) {d : Kd β} (hc : P.cellsOf t = d.sz) (F : RF P fs.toList 0 α) (f : α → β) (hK : ∀ w x cs, F.K w x cs → d.K w (f x) cs) (ok : β → Prop) (hok : ∀ x, F.ok x → ok (f x)) : RV P t β d where
  ok := ok
  sz := hc
  opens := fun {H enc w base spare held fuel cs x} h hw => by
    obtain ⟨xs, n, _, rfl, hl, hxl, hx⟩ := DataW.trod_struct ht h
    unfold fitsB at hf
    rw [Bool.and_eq_true] at hf
    obtain ⟨f1, f2⟩ := hf
    simp only [DataW.weights, ht] at hw
    obtain ⟨a, ha, hka⟩ := F.opens (enc := enc) (w := w) (base := base) (spare := spare) (held := held) (fuel := n) (cs := cs) (ds := xs) (Nat.zero_le _)
      (fun f hf => by rw [hl]; exact of_decide_eq_true (List.all_eq_true.1 f1 f hf))
      (fun i f hi => by
        have hi' : fs[i]? = some f := by rw [← Array.getElem?_toList]; exact hi
        have hlt : i < fs.size := by
          have := (List.getElem?_eq_some_iff.1 hi).1
          simpa using this
        have z := hx i f hi'
        rw [z]
        exact ⟨_, List.getElem?_eq_getElem (by omega), List.getElem?_eq_getElem (by omega)⟩)
      hw
      (fun h0 => by rw [h0] at f2; simp at f2; rw [hl]; exact f2)
      (fun f hf => by rw [hf] at f2; simp at f2; rw [hl]; exact f2)
    exact ⟨f a, hK _ _ _ (by simpa using ha), hok a hka⟩
end
end Go.Proofs.Ytnihacajjpcjeaa

end
section
namespace Go.Proofs.Ytnihacajjpcjeaa.P
open Go.Proofs.YtnihacajjpcjeaaW.PrintWords Go.Proofs.YtnihacajjpcjeaaW.PrintLast Go.Proofs.YtnihacajjpcjeaaW.PrintMore
set_option linter.unusedVariables false
def r3 : RV Try.prog 3 Int (Kd.int .i64) := rInt .i64 Try.underlying3 (by kernel_rfl)
def r32 : RV Try.prog 32 Int (Kd.int .u32) := rInt .u32 Try.underlying32 (by kernel_rfl)
def ok34 (x : S34) : Prop := (okI .u32) x.f0 ∧ (okI .i64) x.f1
def r34 : RV Try.prog 34 S34 k34 := rStruct Try.underlying34 (by kernel_rfl) (by kernel_rfl) (fCons (n := 1) _ rfl (by kernel_rfl) r32 (fCons (n := 1) _ rfl (by kernel_rfl) r3 (fNil _))) (fun x => ⟨x.1, x.2.1⟩) (by rintro w x cs ⟨c0, _, rfl, h0, c1, _, rfl, h1, rfl⟩; exact ⟨c0, _, rfl, h0, (by rw [List.append_nil]; exact h1)⟩) ok34 (fun x h => ⟨h.1, h.2.1⟩)
def ok61 (x : S61) : Prop := (okI .i64) x.f0 ∧ (okI .i64) x.f1 ∧ (ok34) x.f2 ∧ (okI .u32) x.f3
def r61 : RV Try.prog 61 S61 k61 := rStruct Try.underlying61 (by kernel_rfl) (by kernel_rfl) (fCons (n := 1) _ rfl (by kernel_rfl) r3 (fCons (n := 1) _ rfl (by kernel_rfl) r3 (fCons (n := 2) _ rfl (by kernel_rfl) r34 (fCons (n := 1) _ rfl (by kernel_rfl) r32 (fNil _))))) (fun x => ⟨x.1, x.2.1, x.2.2.1, x.2.2.2.1⟩) (by rintro w x cs ⟨c0, _, rfl, h0, c1, _, rfl, h1, c2, _, rfl, h2, c3, _, rfl, h3, rfl⟩; exact ⟨c0, _, rfl, h0, ⟨c1, _, rfl, h1, ⟨c2, _, rfl, h2, (by rw [List.append_nil]; exact h3)⟩⟩⟩) ok61 (fun x h => ⟨h.1, h.2.1, h.2.2.1, h.2.2.2.1⟩)
def r22 : RV Try.prog 22 (List (S61)) (Kd.slice 61 k61) := rSlice (B := 40) Try.underlying22 (by kernel_rfl) (by kernel_rfl) (by decide) (by decide) r61
end Go.Proofs.Ytnihacajjpcjeaa.P

end
section
namespace Go.Proofs.Ytnihacajjpcjeaa.Pure
open Go.RowKit Go.Proofs.Ytnihacajjpcjeaa.P Go.Proofs.YtnihacajjpcjeaaW.PrintWords Go.Proofs.YtnihacajjpcjeaaW.PrintLast Go.Proofs.YtnihacajjpcjeaaW.PrintMore
set_option linter.unusedVariables false

theorem TrieParts (x0 : List (S61)) (x1 : S34) (x2 : Int) (ok_0 : (okL 40 (ok61)) x0) (ok_1 : (ok34) x1) (ok_2 : (okI .i64) x2) : ∃ k, Go.Proofs.Ytnihacajjpcjeaa.P.whirligiglaw06_TrieParts.f k x0 x1.f0 x1.f1 x2 = some true := by
  have h : whirligiglaw06_TrieParts.f 0 x0 x1.f0 x1.f1 x2 = some true := by
    unfold whirligiglaw06_TrieParts.f
    refine if_pos ?_
    simp only [Bool.and_eq_true, List.all_eq_true, decide_eq_true_eq]
    exact ⟨fun x hx => okI_u32 (ok_0.2 x hx).2.2.1.1, okI_u32 ok_1.1⟩
  exact ⟨0, h⟩
end Go.Proofs.Ytnihacajjpcjeaa.Pure

end
