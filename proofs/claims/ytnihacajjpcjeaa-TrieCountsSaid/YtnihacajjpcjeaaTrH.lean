/- Tries in memory: their nodes by the ways from the root. -/
import Derived.Test.YtnihacajjpcjeaaKdW
namespace Go.Proofs.Ytnihacajjpcjeaa
open Go.RowKit Go.Proofs.YtnihacajjpcjeaaW.PrintWords Go.Proofs.YtnihacajjpcjeaaW.PrintLast Go.Proofs.YtnihacajjpcjeaaW.PrintMore
set_option linter.unusedVariables false
set_option linter.unusedSimpArgs false
set_option linter.unusedSectionVars false

/-- a way from the root: its bits, from the highest on -/
abbrev Way := List Bool
def bitB (a : Int) (i : Nat) : Bool := a / 2 ^ (31 - i) % 2 == 1
def wayA (a : Int) : Nat → Way
  | 0 => []
  | n + 1 => wayA a n ++ [bitB a n]
theorem wayA_len (a : Int) (n : Nat) : (wayA a n).length = n := by
  induction n with
  | zero => rfl
  | succ n ih => simp [wayA, ih]
theorem wayA_take (a : Int) (n i : Nat) (h : i ≤ n) : (wayA a n).take i = wayA a i := by
  induction n with
  | zero => obtain rfl : i = 0 := by omega
            rfl
  | succ n ih =>
    by_cases e : i = n + 1
    · subst e
      rw [List.take_of_length_le (by rw [wayA_len]; exact Nat.le_refl _)]
    · simp only [wayA]
      rw [List.take_append_of_le_length (by rw [wayA_len]; omega)]
      exact ih (by omega)

theorem wayA_split (a : Int) {i n : Nat} (h : i ≤ n) : ∃ ρ : Way, wayA a n = wayA a i ++ ρ := by
  refine ⟨(wayA a n).drop i, ?_⟩
  rw [← wayA_take a n i h, List.take_append_drop]
/-- what a trie's values are: how a value stands in a cell, the zero, the types of a node and of a trie -/
structure TK (V : Type) where
  emb : V → Value
  z : V
  tn : TypeId
  tt : TypeId
section
variable {V : Type} (K : TK V)
def ptrT (D : Way → Bool) (blk : Way → Nat) (π : Way) : Value := if D π = true then .pointer (some ⟨blk π, 0, none⟩) else .pointer none
def nodeT (D : Way → Bool) (m : Way → Option V) (blk : Way → Nat) (π : Way) : Array Value :=
  #[ptrT D blk (π ++ [false]), ptrT D blk (π ++ [true]), .bool (m π).isSome, K.emb ((m π).getD K.z)]
/-- the nodes D lie in a world, with the values m, in the blocks blk -/
structure Nodes (w : World) (D : Way → Bool) (m : Way → Option V) (blk : Way → Nat) : Prop where
  lies : ∀ π, D π = true → w.heap[blk π]? = some (.cells (nodeT K D m blk π) K.tn (0, 0))
  inj : ∀ π ρ, D π = true → D ρ = true → blk π = blk ρ → π = ρ
  up : ∀ π b, D (π ++ [b]) = true → D π = true
  sup : ∀ π, (m π).isSome = true → D π = true
structure TrieAt (w : World) (bt : Nat) (n : Int) (D : Way → Bool) (m : Way → Option V) (blk : Way → Nat) : Prop where
  nodes : Nodes K w D m blk
  root : w.heap[bt]? = some (.cells #[ptrT D blk [], .int .i64 n] K.tt (0, 0))
  ne : ∀ π, D π = true → blk π ≠ bt
/-- blocks of one's own are let go, all others are kept -/
structure Kb (own : Nat → Prop) (w w' : World) : Prop where
  os : w'.os = w.os
  tape : w'.tape = w.tape
  output : w'.output = w.output
  size : w.heap.size ≤ w'.heap.size
  block : ∀ b, b < w.heap.size → ¬ own b → w'.heap[b]? = w.heap[b]?
end
theorem Kb.refl (own : Nat → Prop) (w : World) : Kb own w w := ⟨rfl, rfl, rfl, Nat.le_refl _, fun _ _ _ => rfl⟩
theorem Kb.trans {own : Nat → Prop} {a b c : World} (h : Kb own a b) (k : Kb own b c) : Kb own a c :=
  ⟨k.os.trans h.os, k.tape.trans h.tape, k.output.trans h.output, Nat.le_trans h.size k.size, fun i hi ho => (k.block i (Nat.lt_of_lt_of_le hi h.size) ho).trans (h.block i hi ho)⟩
/-- a second own, whose blocks are the first one's or new -/
theorem Kb.trans' {own own' : Nat → Prop} {a b c : World} (h : Kb own a b) (k : Kb own' b c) (ho : ∀ i, own' i → own i ∨ a.heap.size ≤ i) : Kb own a c :=
  ⟨k.os.trans h.os, k.tape.trans h.tape, k.output.trans h.output, Nat.le_trans h.size k.size, fun i hi hn => (k.block i (Nat.lt_of_lt_of_le hi h.size) (fun hk => by
    rcases ho i hk with h1 | h1
    · exact hn h1
    · omega)).trans (h.block i hi hn)⟩
theorem Kb.of_below {own : Nat → Prop} {a w : World} (h : Below a.heap.size a w) : Kb own a w := ⟨h.os, h.tape, h.output, h.size, fun i hi _ => h.block i hi⟩
theorem Kb.below {own : Nat → Prop} {a w : World} {B : Nat} (h : Kb own a w) (hB : B ≤ a.heap.size) (ho : ∀ i, own i → B ≤ i) : Below B a w :=
  ⟨h.os, h.tape, h.output, h.size, fun i hi => h.block i (by omega) (fun hk => by have := ho i hk; omega)⟩
theorem Kb.drewN {own : Nat → Prop} {a w : World} (h : Kb own a w) (n : Nat) : Kb own a (w.drewN n) := ⟨h.os, h.tape, h.output, h.size, h.block⟩
section
variable {V : Type} {K : TK V} {w w' : World} {bt : Nat} {n : Int} {D : Way → Bool} {m : Way → Option V} {blk : Way → Nat}
theorem Nodes.keep (h : Nodes K w D m blk) (hk : ∀ π, D π = true → w'.heap[blk π]? = w.heap[blk π]?) : Nodes K w' D m blk :=
  ⟨fun π hp => (hk π hp).trans (h.lies π hp), h.inj, h.up, h.sup⟩
theorem blk_lt {w : World} {b : Nat} {o : Obj} (h : w.heap[b]? = some o) : b < w.heap.size := (Array.getElem?_eq_some_iff.1 h).1
theorem Nodes.lt (h : Nodes K w D m blk) {π : Way} (hp : D π = true) : blk π < w.heap.size := blk_lt (h.lies π hp)
theorem TrieAt.below (h : TrieAt K w bt n D m blk) (hb : Below w.heap.size w w') : TrieAt K w' bt n D m blk :=
  ⟨h.nodes.keep (fun π hp => hb.block _ (h.nodes.lt hp)), (hb.block _ (blk_lt h.root)).trans h.root, h.ne⟩
theorem TrieAt.drewN (h : TrieAt K w bt n D m blk) (k : Nat) : TrieAt K (w.drewN k) bt n D m blk := ⟨⟨h.nodes.lies, h.nodes.inj, h.nodes.up, h.nodes.sup⟩, h.root, h.ne⟩
theorem cell_blk {w : World} {b : Nat} {cs : Array Value} {t : TypeId} (h : w.heap[b]? = some (.cells cs t (0, 0))) (i : Nat) : w.cell? ⟨b, i, none⟩ = cs[i]? := by
  simp [World.cell?, h]
theorem froz_blk {w : World} {b : Nat} {cs : Array Value} {t : TypeId} (h : w.heap[b]? = some (.cells cs t (0, 0))) (i : Nat) : w.frozen? ⟨b, i, none⟩ = false := by
  simp [World.frozen?, h]
theorem TrieAt.cell0 (h : TrieAt K w bt n D m blk) : w.cell? ⟨bt, 0, none⟩ = some (ptrT D blk []) := (cell_blk h.root 0).trans rfl
theorem TrieAt.cell1 (h : TrieAt K w bt n D m blk) : w.cell? ⟨bt, 1, none⟩ = some (.int .i64 n) := (cell_blk h.root 1).trans rfl
theorem Nodes.kid (h : Nodes K w D m blk) {π : Way} (hp : D π = true) (b : Bool) : w.cell? ⟨blk π, b.toNat, none⟩ = some (ptrT D blk (π ++ [b])) := by
  rw [cell_blk (h.lies π hp)]
  cases b <;> rfl
theorem Nodes.is (h : Nodes K w D m blk) {π : Way} (hp : D π = true) : w.cell? ⟨blk π, 2, none⟩ = some (.bool (m π).isSome) := (cell_blk (h.lies π hp) 2).trans rfl
theorem Nodes.val (h : Nodes K w D m blk) {π : Way} (hp : D π = true) : w.cell? ⟨blk π, 3, none⟩ = some (K.emb ((m π).getD K.z)) := (cell_blk (h.lies π hp) 3).trans rfl
theorem ptrT_some {π : Way} (h : D π = true) : ptrT D blk π = .pointer (some ⟨blk π, 0, none⟩) := by unfold ptrT; rw [if_pos h]
theorem ptrT_none {π : Way} (h : D π = false) : ptrT D blk π = .pointer none := by unfold ptrT; rw [if_neg (by simp [h])]
theorem Nodes.ups (h : Nodes K w D m blk) : ∀ (ρ π : Way), D (π ++ ρ) = true → D π = true := by
  intro ρ
  induction ρ with
  | nil => intro π h1; simpa using h1
  | cons b ρ ih => intro π h1; exact h.up π b (ih (π ++ [b]) (by simpa using h1))
end
end Go.Proofs.Ytnihacajjpcjeaa
