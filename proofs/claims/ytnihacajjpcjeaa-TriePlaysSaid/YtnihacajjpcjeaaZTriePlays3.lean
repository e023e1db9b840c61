/- Part of the proof of RowTriePlays: what it asks of functions, words and plain facts (put together by this session's own program, wip/tools/shake.py). -/
import Derived.Test.YtnihacajjpcjeaaZTriePlays0
import Derived.Test.YtnihacajjpcjeaaZTriePlays1
import Derived.Test.YtnihacajjpcjeaaZTriePlays2
import Derived.Test.YtnihacajjpcjeaaProg
import Derived.WalkKit
import Derived.ProofKit
import Derived.WalkMore
import Derived.Deep.LoopGhost
import Derived.Deep.QuietTactic
import Derived.BigQuiet
import Derived.OneCell
import Derived.IntWalk
import Derived.Laws.AppendOwn
import Derived.Laws.OwnMore
import Derived.RegionTactic
import Derived.Deep.RegionLaw
import Derived.Deep.RegionHeld3
import Derived.Deep.AppendLies
import Derived.OwnWalk
import Derived.Below
import Derived.WideShapes
import Derived.Laws.BytesString
import Derived.Laws.IdiomStrings
import Derived.Laws.BitsLemmas
section
set_option linter.unusedVariables false
set_option linter.unusedSimpArgs false
namespace Go.Proofs.Ytnihacajjpcjeaa
open Go.RowKit

theorem mkHid {p : Prop} (h : p) : Hid p := h
end Go.Proofs.Ytnihacajjpcjeaa

end
section
set_option linter.unusedVariables false
set_option linter.unusedSimpArgs false
namespace Go.Proofs.Ytnihacajjpcjeaa
open Go.RowKit Go.Proofs.YtnihacajjpcjeaaW.PrintWords Go.Proofs.YtnihacajjpcjeaaW.PrintLast Go.Proofs.YtnihacajjpcjeaaW.PrintMore

theorem Reps.one_ {α : Type} {d : Kd α} {w : World} {xs : List α} {inner : List Value} (hr : Reps (d.K w) d.sz xs inner) (hs : 0 < d.sz) : ∀ u ∈ inner, u.oneCell' = true := by
  intro u hu
  obtain ⟨i, hi⟩ := List.getElem?_of_mem hu
  have hlt := (List.getElem?_eq_some_iff.1 hi).1
  rw [hr.1] at hlt
  have hj : i / d.sz < xs.length := by rw [Nat.div_lt_iff_lt_mul hs]; exact hlt
  have hk := hr.2 (i / d.sz) _ (List.getElem?_eq_getElem hj)
  refine d.K_one hk u ?_
  refine List.mem_of_getElem? (i := i % d.sz) ?_
  rw [List.getElem?_take_of_lt (Nat.mod_lt _ hs), List.getElem?_drop, Nat.mul_comm, Nat.div_add_mod]
  exact hi
end Go.Proofs.Ytnihacajjpcjeaa

end
section
namespace Go.Proofs.Ytnihacajjpcjeaa
open Go.RowKit Go.Proofs.YtnihacajjpcjeaaW.PrintWords Go.Proofs.YtnihacajjpcjeaaW.PrintLast Go.Proofs.YtnihacajjpcjeaaW.PrintMore
set_option linter.unusedVariables false
set_option linter.unusedSimpArgs false
set_option linter.unusedSectionVars false

/-- a way from the root: its bits, from the highest on -/
abbrev Way := List Bool
def bitB (a : Int) (i : Nat) : Bool := a / 2 ^ (31 - i) % 2 == 1
def wayA (a : Int) : Nat → Way
  | 0 => []
  | n + 1 => wayA a n ++ [bitB a n]
theorem wayA_len (a : Int) (n : Nat) : (wayA a n).length = n := by
  induction n with
  | zero => rfl
  | succ n ih => simp [wayA, ih]
theorem wayA_take (a : Int) (n i : Nat) (h : i ≤ n) : (wayA a n).take i = wayA a i := by
  induction n with
  | zero => obtain rfl : i = 0 := by omega
            rfl
  | succ n ih =>
    by_cases e : i = n + 1
    · subst e
      rw [List.take_of_length_le (by rw [wayA_len]; exact Nat.le_refl _)]
    · simp only [wayA]
      rw [List.take_append_of_le_length (by rw [wayA_len]; omega)]
      exact ih (by omega)

theorem wayA_split (a : Int) {i n : Nat} (h : i ≤ n) : ∃ ρ : Way, wayA a n = wayA a i ++ ρ := by
  refine ⟨(wayA a n).drop i, ?_⟩
  rw [← wayA_take a n i h, List.take_append_drop]
/-- what a trie's values are: how a value stands in a cell, the zero, the types of a node and of a trie -/
structure TK (V : Type) where
  emb : V → Value
  z : V
  tn : TypeId
  tt : TypeId
section
variable {V : Type} (K : TK V)
def ptrT (D : Way → Bool) (blk : Way → Nat) (π : Way) : Value := if D π = true then .pointer (some ⟨blk π, 0, none⟩) else .pointer none
def nodeT (D : Way → Bool) (m : Way → Option V) (blk : Way → Nat) (π : Way) : Array Value :=
  #[ptrT D blk (π ++ [false]), ptrT D blk (π ++ [true]), .bool (m π).isSome, K.emb ((m π).getD K.z)]
/-- the nodes D lie in a world, with the values m, in the blocks blk -/
structure Nodes (w : World) (D : Way → Bool) (m : Way → Option V) (blk : Way → Nat) : Prop where
  lies : ∀ π, D π = true → w.heap[blk π]? = some (.cells (nodeT K D m blk π) K.tn (0, 0))
  inj : ∀ π ρ, D π = true → D ρ = true → blk π = blk ρ → π = ρ
  up : ∀ π b, D (π ++ [b]) = true → D π = true
  sup : ∀ π, (m π).isSome = true → D π = true
structure TrieAt (w : World) (bt : Nat) (n : Int) (D : Way → Bool) (m : Way → Option V) (blk : Way → Nat) : Prop where
  nodes : Nodes K w D m blk
  root : w.heap[bt]? = some (.cells #[ptrT D blk [], .int .i64 n] K.tt (0, 0))
  ne : ∀ π, D π = true → blk π ≠ bt
/-- blocks of one's own are let go, all others are kept -/
structure Kb (own : Nat → Prop) (w w' : World) : Prop where
  os : w'.os = w.os
  tape : w'.tape = w.tape
  output : w'.output = w.output
  size : w.heap.size ≤ w'.heap.size
  block : ∀ b, b < w.heap.size → ¬ own b → w'.heap[b]? = w.heap[b]?
end
theorem Kb.refl (own : Nat → Prop) (w : World) : Kb own w w := ⟨rfl, rfl, rfl, Nat.le_refl _, fun _ _ _ => rfl⟩
theorem Kb.trans {own : Nat → Prop} {a b c : World} (h : Kb own a b) (k : Kb own b c) : Kb own a c :=
  ⟨k.os.trans h.os, k.tape.trans h.tape, k.output.trans h.output, Nat.le_trans h.size k.size, fun i hi ho => (k.block i (Nat.lt_of_lt_of_le hi h.size) ho).trans (h.block i hi ho)⟩
/-- a second own, whose blocks are the first one's or new -/
theorem Kb.trans' {own own' : Nat → Prop} {a b c : World} (h : Kb own a b) (k : Kb own' b c) (ho : ∀ i, own' i → own i ∨ a.heap.size ≤ i) : Kb own a c :=
  ⟨k.os.trans h.os, k.tape.trans h.tape, k.output.trans h.output, Nat.le_trans h.size k.size, fun i hi hn => (k.block i (Nat.lt_of_lt_of_le hi h.size) (fun hk => by
    rcases ho i hk with h1 | h1
    · exact hn h1
    · omega)).trans (h.block i hi hn)⟩
theorem Kb.of_below {own : Nat → Prop} {a w : World} (h : Below a.heap.size a w) : Kb own a w := ⟨h.os, h.tape, h.output, h.size, fun i hi _ => h.block i hi⟩
theorem Kb.below {own : Nat → Prop} {a w : World} {B : Nat} (h : Kb own a w) (hB : B ≤ a.heap.size) (ho : ∀ i, own i → B ≤ i) : Below B a w :=
  ⟨h.os, h.tape, h.output, h.size, fun i hi => h.block i (by omega) (fun hk => by have := ho i hk; omega)⟩
theorem Kb.drewN {own : Nat → Prop} {a w : World} (h : Kb own a w) (n : Nat) : Kb own a (w.drewN n) := ⟨h.os, h.tape, h.output, h.size, h.block⟩
section
variable {V : Type} {K : TK V} {w w' : World} {bt : Nat} {n : Int} {D : Way → Bool} {m : Way → Option V} {blk : Way → Nat}
theorem Nodes.keep (h : Nodes K w D m blk) (hk : ∀ π, D π = true → w'.heap[blk π]? = w.heap[blk π]?) : Nodes K w' D m blk :=
  ⟨fun π hp => (hk π hp).trans (h.lies π hp), h.inj, h.up, h.sup⟩
theorem blk_lt {w : World} {b : Nat} {o : Obj} (h : w.heap[b]? = some o) : b < w.heap.size := (Array.getElem?_eq_some_iff.1 h).1
theorem Nodes.lt (h : Nodes K w D m blk) {π : Way} (hp : D π = true) : blk π < w.heap.size := blk_lt (h.lies π hp)
theorem TrieAt.below (h : TrieAt K w bt n D m blk) (hb : Below w.heap.size w w') : TrieAt K w' bt n D m blk :=
  ⟨h.nodes.keep (fun π hp => hb.block _ (h.nodes.lt hp)), (hb.block _ (blk_lt h.root)).trans h.root, h.ne⟩
theorem TrieAt.drewN (h : TrieAt K w bt n D m blk) (k : Nat) : TrieAt K (w.drewN k) bt n D m blk := ⟨⟨h.nodes.lies, h.nodes.inj, h.nodes.up, h.nodes.sup⟩, h.root, h.ne⟩
theorem cell_blk {w : World} {b : Nat} {cs : Array Value} {t : TypeId} (h : w.heap[b]? = some (.cells cs t (0, 0))) (i : Nat) : w.cell? ⟨b, i, none⟩ = cs[i]? := by
  simp [World.cell?, h]
theorem froz_blk {w : World} {b : Nat} {cs : Array Value} {t : TypeId} (h : w.heap[b]? = some (.cells cs t (0, 0))) (i : Nat) : w.frozen? ⟨b, i, none⟩ = false := by
  simp [World.frozen?, h]
theorem TrieAt.cell0 (h : TrieAt K w bt n D m blk) : w.cell? ⟨bt, 0, none⟩ = some (ptrT D blk []) := (cell_blk h.root 0).trans rfl
theorem TrieAt.cell1 (h : TrieAt K w bt n D m blk) : w.cell? ⟨bt, 1, none⟩ = some (.int .i64 n) := (cell_blk h.root 1).trans rfl
theorem Nodes.kid (h : Nodes K w D m blk) {π : Way} (hp : D π = true) (b : Bool) : w.cell? ⟨blk π, b.toNat, none⟩ = some (ptrT D blk (π ++ [b])) := by
  rw [cell_blk (h.lies π hp)]
  cases b <;> rfl
theorem Nodes.is (h : Nodes K w D m blk) {π : Way} (hp : D π = true) : w.cell? ⟨blk π, 2, none⟩ = some (.bool (m π).isSome) := (cell_blk (h.lies π hp) 2).trans rfl
theorem Nodes.val (h : Nodes K w D m blk) {π : Way} (hp : D π = true) : w.cell? ⟨blk π, 3, none⟩ = some (K.emb ((m π).getD K.z)) := (cell_blk (h.lies π hp) 3).trans rfl
theorem ptrT_some {π : Way} (h : D π = true) : ptrT D blk π = .pointer (some ⟨blk π, 0, none⟩) := by unfold ptrT; rw [if_pos h]
theorem ptrT_none {π : Way} (h : D π = false) : ptrT D blk π = .pointer none := by unfold ptrT; rw [if_neg (by simp [h])]
theorem Nodes.ups (h : Nodes K w D m blk) : ∀ (ρ π : Way), D (π ++ ρ) = true → D π = true := by
  intro ρ
  induction ρ with
  | nil => intro π h1; simpa using h1
  | cons b ρ ih => intro π h1; exact h.up π b (ih (π ++ [b]) (by simpa using h1))
end
end Go.Proofs.Ytnihacajjpcjeaa

end
section
set_option linter.unusedVariables false
set_option linter.unusedSimpArgs false
namespace Go.Proofs.Ytnihacajjpcjeaa
open Go.RowKit Go.Proofs.YtnihacajjpcjeaaW.PrintWords Go.Proofs.YtnihacajjpcjeaaW.PrintLast Go.Proofs.YtnihacajjpcjeaaW.PrintMore

/-- with rounds enough, r comes out -/
def Evt {α : Type} (g : Nat → Option α) (r : α) : Prop := ∃ K, ∀ k, K ≤ k → g k = some r
theorem Evt.ex {α : Type} {g : Nat → Option α} {r : α} (h : Evt g r) : ∃ k, g k = some r := h.imp fun K hK => hK K (Nat.le_refl _)
theorem Evt.pure {α : Type} (r : α) : Evt (fun _ => some r) r := ⟨0, fun _ _ => rfl⟩
theorem Evt.of {α : Type} {g : Nat → Option α} {r : α} (h : ∀ k, g k = some r) : Evt g r := ⟨0, fun k _ => h k⟩
theorem Evt.bind {α β : Type} {g : Nat → Option α} {f : Nat → α → Option β} {a : α} {b : β} (h : Evt g a) (h2 : Evt (fun k => f k a) b) : Evt (fun k => (g k).bind (f k)) b := by
  obtain ⟨K, h⟩ := h
  obtain ⟨L, h2⟩ := h2
  exact ⟨max K L, fun k hk => by show (g k).bind (f k) = some b; rw [h k (by omega)]; exact h2 k (by omega)⟩
theorem Evt.bindc {α β : Type} {o : Option α} {f : Nat → α → Option β} {a : α} {b : β} (h : o = some a) (h2 : Evt (fun k => f k a) b) : Evt (fun k => o.bind (f k)) b := by
  subst h; exact h2
theorem Evt.step {α : Type} {g : Nat → Option α} {r : α} (h : Evt (fun k => g (k + 1)) r) : Evt g r := by
  obtain ⟨K, h⟩ := h
  refine ⟨K + 1, fun k hk => ?_⟩
  obtain ⟨k, rfl⟩ : ∃ m, k = m + 1 := ⟨k - 1, by omega⟩
  exact h k (by omega)
theorem Evt.ite_pos {α : Type} {c : Prop} [Decidable c] {x y : Nat → Option α} {r : α} (hc : c) (h : Evt x r) : Evt (fun k => if c then x k else y k) r := by
  simp only [if_pos hc]; exact h
theorem Evt.ite_neg {α : Type} {c : Prop} [Decidable c] {x y : Nat → Option α} {r : α} (hc : ¬ c) (h : Evt y r) : Evt (fun k => if c then x k else y k) r := by
  simp only [if_neg hc]; exact h
theorem wrap64_in (x : Int) (h0 : -9223372036854775808 ≤ x) (h1 : x ≤ 9223372036854775807) : wrap64 x = x := by unfold wrap64; omega

theorem mask_not (n : Nat) (hn : n ≤ 32) : ~~~(BitVec.ofInt 32 (4294967296 - 2 ^ n)) = BitVec.ofNat 32 (2 ^ n - 1) := by
  have : ∀ n : Fin 33, ~~~(BitVec.ofInt 32 (4294967296 - 2 ^ n.val)) = BitVec.ofNat 32 (2 ^ n.val - 1) := by decide +kernel
  exact this ⟨n, by omega⟩
theorem shl_all (n : Nat) (hn : n ≤ 32) : shl .u32 4294967295 n = 4294967296 - 2 ^ n := by
  have : ∀ n : Fin 33, 0 < n.val → shl .u32 4294967295 n.val = 4294967296 - 2 ^ n.val := by decide +kernel
  rcases Nat.eq_zero_or_pos n with rfl | h
  · decide +kernel
  · exact this ⟨n, by omega⟩ h
theorem ofN (x : Nat) : BitVec.ofInt 32 (x : Int) = BitVec.ofNat 32 x := by simp
theorem andNot_mask (a : Int) (n : Nat) (h0 : 0 ≤ a) (h1 : a < 4294967296) (hn : n ≤ 32) : bits .andNot .u32 a (4294967296 - 2 ^ n) = a % 2 ^ n := by
  obtain ⟨x, rfl⟩ := Int.eq_ofNat_of_zero_le h0
  show IntKind.u32.wrap ((BitVec.ofInt 32 (x : Int) &&& ~~~ BitVec.ofInt 32 (4294967296 - 2 ^ n)).toNat : Int) = _
  rw [mask_not n hn, IntKind.wrap_u32, ofN, BitVec.toNat_and, BitVec.toNat_ofNat, BitVec.toNat_ofNat]
  have hx : x % 2 ^ 32 = x := Nat.mod_eq_of_lt (by omega)
  have hp : 2 ^ n ≤ 2 ^ 32 := Nat.pow_le_pow_right (by decide) hn
  have hpos : 0 < 2 ^ n := Nat.two_pow_pos n
  have hq : (2 ^ n - 1) % 2 ^ 32 = 2 ^ n - 1 := Nat.mod_eq_of_lt (by omega)
  rw [hx, hq, Nat.and_two_pow_sub_one_eq_mod]
  have : x % 2 ^ n < 2 ^ n := Nat.mod_lt _ hpos
  have hz : (((x % 2 ^ n : Nat) : Int)) = (x : Int) % 2 ^ n := by simp
  rw [← hz]
  omega
end Go.Proofs.Ytnihacajjpcjeaa

end
section
namespace Go.Proofs.Ytnihacajjpcjeaa
open Go.RowKit Go.Proofs.Ytnihacajjpcjeaa.P Go.Proofs.YtnihacajjpcjeaaW.PrintWords Go.Proofs.YtnihacajjpcjeaaW.PrintLast Go.Proofs.YtnihacajjpcjeaaW.PrintMore
set_option linter.unusedVariables false
set_option linter.unusedSimpArgs false

theorem and_one (a : Int) (h0 : 0 ≤ a) (h1 : a < 4294967296) : Go.bits .and .u32 a 1 = a % 2 := by
  obtain ⟨x, rfl⟩ := Int.eq_ofNat_of_zero_le h0
  show IntKind.u32.wrap ((BitVec.ofInt 32 (x : Int) &&& BitVec.ofInt 32 1).toNat : Int) = _
  rw [IntKind.wrap_u32, ofN, BitVec.toNat_and, BitVec.toNat_ofNat]
  have : (BitVec.ofInt 32 1).toNat = 1 := by decide
  rw [this, Nat.and_one_is_mod]
  have hx : x % 2 ^ 32 = x := Nat.mod_eq_of_lt (by omega)
  rw [hx]
  omega
theorem shr_in (a : Int) (i : Nat) (hi : i ≤ 32) : shr .u32 a (i : Int) = a / 2 ^ i := by
  show a / 2 ^ min ((i : Int)).toNat 32 = _
  rw [Int.toNat_natCast, Nat.min_eq_left hi]
theorem tbit_ev (a : Int) (i : Nat) (h0 : 0 ≤ a) (h1 : a < 4294967296) (hi : i ≤ 31) : trie_bit.f a (i : Int) = some ((bitB a i).toNat : Int) := by
  have e : wrap64 (31 - (i : Int)) = ((31 - i : Nat) : Int) := by rw [wrap64_in _ (by omega) (by omega)]; omega
  unfold trie_bit.f
  rw [if_pos (by rw [e]; omega), e, shr_in _ _ (by omega)]
  have hp : (0 : Int) < 2 ^ (31 - i) := Int.pow_pos (by decide)
  have q0 : 0 ≤ a / 2 ^ (31 - i) := Int.ediv_nonneg h0 (by omega)
  have q1 : a / 2 ^ (31 - i) ≤ a := Int.ediv_le_self _ h0
  rw [and_one _ q0 (by omega)]
  unfold bitB
  obtain ⟨q, hq⟩ : ∃ q : Int, q = a / 2 ^ (31 - i) % 2 := ⟨_, rfl⟩
  rw [← hq]
  have : q = 0 ∨ q = 1 := by omega
  rcases this with h | h <;> rw [h, wrap64_in _ (by omega) (by omega)] <;> rfl
theorem may_bits {a b : Int} (h : addr_May.f a b = some true) : 0 ≤ b ∧ b ≤ 32 := by
  unfold addr_May.f at h
  by_cases h1 : b ≥ 0
  · rw [if_pos h1] at h
    by_cases h2 : b ≤ 32
    · exact ⟨h1, h2⟩
    · rw [if_neg h2] at h; simp at h
  · rw [if_neg h1] at h; simp at h
/-- a trie: its own blocks, how many values, the values by their ways -/
def Tri {V : Type} (K : TK V) (w : World) (bt : Nat) (own : Nat → Prop) (n : Int) (m : Way → Option V) : Prop :=
  ∃ (D : Way → Bool) (blk : Way → Nat), TrieAt K w bt n D m blk ∧ (∀ π, D π = true → ∃ ρ, (m (π ++ ρ)).isSome = true) ∧ own bt ∧ ∀ π, D π = true → own (blk π)
theorem Tri.below {V : Type} {K : TK V} {w w' : World} {bt : Nat} {own : Nat → Prop} {n : Int} {m : Way → Option V} (h : Tri K w bt own n m) (hb : Below w.heap.size w w') : Tri K w' bt own n m := by
  obtain ⟨D, blk, h1, h2, h3, h4⟩ := h
  exact ⟨D, blk, h1.below hb, h2, h3, h4⟩
theorem Tri.drewN {V : Type} {K : TK V} {w : World} {bt : Nat} {own : Nat → Prop} {n : Int} {m : Way → Option V} (h : Tri K w bt own n m) (k : Nat) : Tri K (w.drewN k) bt own n m := by
  obtain ⟨D, blk, h1, h2, h3, h4⟩ := h
  exact ⟨D, blk, h1.drewN k, h2, h3, h4⟩
theorem Tri.mono {V : Type} {K : TK V} {w : World} {bt : Nat} {own own' : Nat → Prop} {n : Int} {m : Way → Option V} (h : Tri K w bt own n m) (ho : ∀ b, own b → own' b) : Tri K w bt own' n m := by
  obtain ⟨D, blk, h1, h2, h3, h4⟩ := h
  exact ⟨D, blk, h1, h2, ho _ h3, fun π hp => ho _ (h4 π hp)⟩
theorem Tri.lt {V : Type} {K : TK V} {w : World} {bt : Nat} {own : Nat → Prop} {n : Int} {m : Way → Option V} (h : Tri K w bt own n m) : bt < w.heap.size := by
  obtain ⟨D, blk, h1, h2, h3, h4⟩ := h
  exact blk_lt h1.root
/-- what stands at a prefix; r: it may be -/
def look {V : Type} (r : Bool) (m : Way → Option V) (a b : Int) : Option V := if r = true then m (wayA a b.toNat) else none
end Go.Proofs.Ytnihacajjpcjeaa

end
section
namespace Go.Proofs.Ytnihacajjpcjeaa
open Go.RowKit Go.Proofs.Ytnihacajjpcjeaa.P Go.Proofs.YtnihacajjpcjeaaW.PrintWords Go.Proofs.YtnihacajjpcjeaaW.PrintLast Go.Proofs.YtnihacajjpcjeaaW.PrintMore
set_option linter.unusedVariables false
set_option linter.unusedSimpArgs false

def kI : TK Int := ⟨fun v => .int .i64 v, 0, 84, 75⟩

set_option maxHeartbeats 4000000 in
set_option maxRecDepth 100000 in
theorem find_not (w : World) (bt : Nat) (a b : Int) (hM : addr_May.f a b = some false) :
    Calls Try.prog 42 #[.pointer (some ⟨bt, 0, none⟩), .agg #[.int .u32 a, .int .i64 b]] w fun e w' => e = .returned (.pointer none) ∧ Below w.heap.size w w' := by
  have HM := mkHid hM
  clear hM
  go_enter Try.func42, Try.ntmps42
  go_wp2_with fail
  refine (addr_May.calls a b false _ HM.out).mono ?_
  rintro e w1 ⟨rfl, hb⟩
  have HB : Hid (Below w.heap.size w w1) := below_step (Below.alloc (Below.refl _ w) (Nat.le_refl _) _) hb
  clear hb
  go_wp2_with fail
  go_ret
  exact ⟨rfl, HB.out⟩

set_option maxHeartbeats 4000000 in
set_option maxRecDepth 100000 in
theorem find_calls (w : World) (bt : Nat) (n : Int) (D : Way → Bool) (m : Way → Option Int) (blk : Way → Nat) (hT : TrieAt kI w bt n D m blk) (a : Int) (N : Nat) (h0 : 0 ≤ a) (h1 : a < 4294967296) (b1 : N ≤ 32) (hM : addr_May.f a N = some true) :
    Calls Try.prog 42 #[.pointer (some ⟨bt, 0, none⟩), .agg #[.int .u32 a, .int .i64 N]] w fun e w' => e = .returned (ptrT D blk (wayA a N)) ∧ Below w.heap.size w w' := by
  have HM := mkHid hM
  have HT := mkHid hT
  have hbt := blk_lt hT.root
  clear hM hT
  go_enter Try.func42, Try.ntmps42
  go_wp2_with fail
  have hx0 : (w.alloc (.cells #[.int .u32 a, .int .i64 N] 34)).cell? ⟨w.heap.size, 0, none⟩ = some (.int .u32 a) := by go_simp
  have hx1 : (w.alloc (.cells #[.int .u32 a, .int .i64 N] 34)).cell? ⟨w.heap.size, 1, none⟩ = some (.int .i64 N) := by go_simp
  refine (addr_May.calls a N true _ HM.out).mono ?_
  rintro e w1 ⟨rfl, hb⟩
  have HB : Hid (Below w.heap.size w w1) := below_step (Below.alloc (Below.refl _ w) (Nat.le_refl _) _) hb
  have hs : w.heap.size < w1.heap.size := by have := hb.size; simp at this; omega
  have q0 : w1.cell? ⟨w.heap.size, 0, none⟩ = some (.int .u32 a) := (hb.cell (by simp)).trans hx0
  have q1 : w1.cell? ⟨w.heap.size, 1, none⟩ = some (.int .i64 N) := (hb.cell (by simp)).trans hx1
  have HT1 := mkHid (HT.out.below HB.out)
  have hc0 : w1.cell? ⟨bt, 0, none⟩ = some (ptrT D blk []) := HT1.out.cell0
  clear hb hx0 hx1
  go_wp2_with fail
  clear hc0
  go_loopg [5, 6] N (fun kq v5 v6 wr => ∃ i : Nat, v6 = .int .i64 i ∧ i ≤ N ∧ v5 = ptrT D blk (wayA a i) ∧ i + kq = N ∧ wr.cell? ⟨w.heap.size, 0, none⟩ = some (.int .u32 a) ∧ wr.cell? ⟨w.heap.size, 1, none⟩ = some (.int .i64 N) ∧ Hid (Below w1.heap.size w1 wr))
  case atStart => exact ⟨0, rfl, by omega, rfl, by omega, q0, q1, Below.refl _ _⟩
  case round =>
    clear q0 q1
    obtain ⟨i, rfl, hi, rfl, hk, q0, q1, HBR⟩ := hrel
    have HTR := mkHid (HT1.out.below HBR.out)
    have hfin : Hid (Below w.heap.size w wr) := below_step HB.out HBR.out
    by_cases hin : i < N
    · have c1 : decide ((i : Int) < (N : Int)) = true := decide_eq_true (by omega)
      cases hD : D (wayA a i) with
      | false =>
        have hres : ptrT D blk (wayA a N) = .pointer none := by
          refine ptrT_none ?_
          obtain ⟨ρ, hρ⟩ := wayA_split a hi
          cases hd : D (wayA a N) with
          | false => rfl
          | true => rw [hρ] at hd; rw [HTR.out.nodes.ups ρ _ hd] at hD; cases hD
        rw [ptrT_none hD]
        go_wp2_with fail
        go_ret
        exact ⟨by rw [hres]; rfl, hfin.out⟩
      | true =>
        rw [ptrT_some hD]
        have hk0 : wr.cell? ⟨blk (wayA a i), 0, none⟩ = some (ptrT D blk (wayA a i ++ [false])) := HTR.out.nodes.kid hD false
        have hk1 : wr.cell? ⟨blk (wayA a i), 1, none⟩ = some (ptrT D blk (wayA a i ++ [true])) := HTR.out.nodes.kid hD true
        have hw : IntKind.i64.wrap ((i : Int) + 1) = ((i + 1 : Nat) : Int) := by rw [IntWalk.i64_in _ (by omega)]; omega
        have hbit : Hid (trie_bit.f a (i : Int) = some ((bitB a i).toNat : Int)) := tbit_ev a i h0 h1 (by omega)
        cases hB : bitB a i with
        | false =>
          rw [hB] at hbit
          go_upto_region 7 with fail
          go_quiet ((first | (go_at_call 45; (with_reducible refine (trie_bit.calls a i ((false.toNat : Nat) : Int) _ hbit.out).mono ?_); rintro e w' ⟨rfl, ⟨nd, rfl⟩⟩; (try first | exact ⟨rfl, _, World.drewN_drewN _ _ _⟩))))
          go_wp2_with fail
          go_roundg (gk - 1)
          case measure => omega
          case rel => exact ⟨i + 1, rfl, by omega, congrArg (ptrT D blk) (show _ = wayA a (i + 1) by rw [wayA, hB]), by omega, q0, q1, pw_below_drewN HBR.out _⟩
        | true =>
          rw [hB] at hbit
          go_upto_region 7 with fail
          go_quiet ((first | (go_at_call 45; (with_reducible refine (trie_bit.calls a i ((true.toNat : Nat) : Int) _ hbit.out).mono ?_); rintro e w' ⟨rfl, ⟨nd, rfl⟩⟩; (try first | exact ⟨rfl, _, World.drewN_drewN _ _ _⟩))))
          go_wp2_with fail
          go_roundg (gk - 1)
          case measure => omega
          case rel => exact ⟨i + 1, rfl, by omega, congrArg (ptrT D blk) (show _ = wayA a (i + 1) by rw [wayA, hB]), by omega, q0, q1, pw_below_drewN HBR.out _⟩
    · obtain rfl : i = N := by omega
      have c1 : decide ((i : Int) < (i : Int)) = false := decide_eq_false (by omega)
      go_wp2_with fail
      go_ret
      exact ⟨rfl, hfin.out⟩
end Go.Proofs.Ytnihacajjpcjeaa

end
section
namespace Go.Proofs.Ytnihacajjpcjeaa
open Go.RowKit Go.Proofs.Ytnihacajjpcjeaa.P Go.Proofs.YtnihacajjpcjeaaW.PrintWords Go.Proofs.YtnihacajjpcjeaaW.PrintLast Go.Proofs.YtnihacajjpcjeaaW.PrintMore
set_option linter.unusedVariables false
set_option linter.unusedSimpArgs false

theorem new_at (w : World) : Tri kI (w.alloc (.cells #[.pointer none, .int .i64 0] 75)) w.heap.size (fun b => b = w.heap.size) 0 (fun _ => none) := by
  refine ⟨fun _ => false, fun _ => 0, ⟨⟨fun _ h => (by simp at h), fun _ _ h => (by simp at h), fun _ _ h => (by simp at h), fun _ h => (by simp at h)⟩, ?_, fun _ h => (by simp at h)⟩, fun _ h => (by simp at h), rfl, fun _ h => (by simp at h)⟩
  exact heap_alloc_new w _
set_option maxHeartbeats 4000000 in
set_option maxRecDepth 100000 in
theorem new_calls (w : World) : Calls Try.prog 29 #[] w fun e w' => e = .returned (.pointer (some ⟨w.heap.size, 0, none⟩)) ∧ w.heap.size < w'.heap.size ∧ Tri kI w' w.heap.size (fun b => b = w.heap.size) 0 (fun _ => none) ∧ Below w.heap.size w w' := by
  go_enter Try.func29, Try.ntmps29
  go_wp2_with fail
  go_ret
  exact ⟨rfl, by simp, new_at w, Below.alloc (Below.refl _ _) (Nat.le_refl _) _⟩

set_option maxHeartbeats 4000000 in
set_option maxRecDepth 100000 in
theorem len_calls (w : World) (bt : Nat) (own : Nat → Prop) (n : Int) (m : Way → Option Int) (hT : Tri kI w bt own n m) :
    Calls Try.prog 17 #[.pointer (some ⟨bt, 0, none⟩)] w fun e w' => e = .returned (.int .i64 n) ∧ w' = w := by
  obtain ⟨D, blk, h1, h2, h3, h4⟩ := hT
  have hc := h1.cell1
  clear h1 h2 h3 h4
  go_enter Try.func17, Try.ntmps17
  go_wp2_with fail
  go_ret
  exact ⟨rfl, rfl⟩

set_option maxHeartbeats 4000000 in
set_option maxRecDepth 100000 in
theorem get_calls (w : World) (bt : Nat) (own : Nat → Prop) (n : Int) (m : Way → Option Int) (hT : Tri kI w bt own n m) (a b : Int) (r : Bool) (h0 : 0 ≤ a) (h1 : a < 4294967296) (hM : addr_May.f a b = some r) :
    Calls Try.prog 23 #[.pointer (some ⟨bt, 0, none⟩), .agg #[.int .u32 a, .int .i64 b]] w fun e w' => e = .returned (.tuple #[.int .i64 ((look r m a b).getD 0), .bool (look r m a b).isSome]) ∧ Below w.heap.size w w' := by
  have HM := mkHid hM
  have HB0 : Hid (Below w.heap.size w (w.alloc (.cells #[.int .u32 a, .int .i64 b] 34))) := Below.alloc (Below.refl _ w) (Nat.le_refl _) _
  have HT := mkHid (hT.below HB0.out)
  clear hM hT
  cases r with
  | false =>
    have e0 : look false m a b = none := rfl
    rw [e0]
    go_enter Try.func23, Try.ntmps23
    go_wp2_with fail
    refine (find_not _ bt a b HM.out).mono ?_
    rintro e w1 ⟨rfl, hb⟩
    have HB := mkHid (below_step HB0.out hb)
    clear hb
    go_wp2_with fail
    go_ret2
    exact ⟨rfl, HB.out⟩
  | true =>
    obtain ⟨b0, b1⟩ := may_bits HM.out
    obtain ⟨N, rfl⟩ : ∃ N : Nat, b = N := ⟨b.toNat, by omega⟩
    have e0 : look true m a N = m (wayA a N) := rfl
    rw [e0]
    obtain ⟨D, blk, g1, g2, g3, g4⟩ := HT.out
    have G1 := mkHid g1
    clear g1
    cases hD : D (wayA a N) with
    | false =>
      have e1 : m (wayA a N) = none := by
        cases hm : m (wayA a N) with
        | none => rfl
        | some v => have := G1.out.nodes.sup (wayA a N) (by rw [hm]; rfl); rw [hD] at this; cases this
      rw [e1]
      go_enter Try.func23, Try.ntmps23
      go_wp2_with fail
      refine (find_calls _ bt n D m blk G1.out a N h0 h1 (by omega) HM.out).mono ?_
      rintro e w1 ⟨rfl, hb⟩
      have HB := mkHid (below_step HB0.out hb)
      rw [ptrT_none hD]
      clear hb
      go_wp2_with fail
      go_ret2
      exact ⟨rfl, HB.out⟩
    | true =>
      go_enter Try.func23, Try.ntmps23
      go_wp2_with fail
      refine (find_calls _ bt n D m blk G1.out a N h0 h1 (by omega) HM.out).mono ?_
      rintro e w1 ⟨rfl, hb⟩
      have HB := mkHid (below_step HB0.out hb)
      have hN := (G1.out.below hb).nodes
      have c2 := hN.is hD
      have c3 : w1.cell? ⟨blk (wayA a N), 3, none⟩ = some (.int .i64 ((m (wayA a N)).getD 0)) := hN.val hD
      rw [ptrT_some hD]
      clear hb hN
      cases hm : m (wayA a N) with
      | none =>
        rw [hm] at c2 c3
        have c4 : w1.cell? ⟨blk (wayA a N), 2, none⟩ = some (.bool false) := c2
        clear c2
        go_wp2_with fail
        go_ret2
        exact ⟨by rw [hm]; rfl, HB.out⟩
      | some v =>
        rw [hm] at c2 c3
        have c4 : w1.cell? ⟨blk (wayA a N), 2, none⟩ = some (.bool true) := c2
        have c5 : w1.cell? ⟨blk (wayA a N), 3, none⟩ = some (.int .i64 v) := c3
        clear c2 c3
        go_wp2_with fail
        go_ret2
        exact ⟨by rw [hm]; rfl, HB.out⟩
end Go.Proofs.Ytnihacajjpcjeaa

end
section
namespace Go.Proofs.Ytnihacajjpcjeaa
open Go.RowKit Go.Proofs.YtnihacajjpcjeaaW.PrintWords Go.Proofs.YtnihacajjpcjeaaW.PrintLast Go.Proofs.YtnihacajjpcjeaaW.PrintMore
set_option linter.unusedVariables false
set_option linter.unusedSimpArgs false
set_option linter.unusedSectionVars false

section
variable {V : Type} (K : TK V)
/-- the pointer to the node at π isn't written yet: u stands there -/
def ptrU (D : Way → Bool) (blk : Way → Nat) (π : Way) (u : Value) (ρ : Way) : Value := if ρ = π then u else ptrT D blk ρ
def nodeU (D : Way → Bool) (m : Way → Option V) (blk : Way → Nat) (π : Way) (u : Value) (ρ : Way) : Array Value :=
  #[ptrU D blk π u (ρ ++ [false]), ptrU D blk π u (ρ ++ [true]), .bool (m ρ).isSome, K.emb ((m ρ).getD K.z)]
structure TrieBut (w : World) (bt : Nat) (n : Int) (D : Way → Bool) (m : Way → Option V) (blk : Way → Nat) (π : Way) (u : Value) : Prop where
  lies : ∀ ρ, D ρ = true → w.heap[blk ρ]? = some (.cells (nodeU K D m blk π u ρ) K.tn (0, 0))
  inj : ∀ π ρ, D π = true → D ρ = true → blk π = blk ρ → π = ρ
  up : ∀ π b, D (π ++ [b]) = true → D π = true
  sup : ∀ π, (m π).isSome = true → D π = true
  root : w.heap[bt]? = some (.cells #[ptrU D blk π u [], .int .i64 n] K.tt (0, 0))
  ne : ∀ π, D π = true → blk π ≠ bt
/-- where the pointer to a node stands -/
def IsSlot (bt : Nat) (D : Way → Bool) (blk : Way → Nat) (π : Way) (s : Addr) : Prop :=
  (π = [] ∧ s = ⟨bt, 0, none⟩) ∨ ∃ ρ c, π = ρ ++ [c] ∧ D ρ = true ∧ s = ⟨blk ρ, c.toNat, none⟩
end
section
variable {V : Type} {K : TK V} {w w' : World} {bt : Nat} {n : Int} {D : Way → Bool} {m : Way → Option V} {blk : Way → Nat}
theorem ptrU_ne {π ρ : Way} {u : Value} (h : ρ ≠ π) : ptrU D blk π u ρ = ptrT D blk ρ := if_neg h
theorem ptrU_eq {π : Way} {u : Value} : ptrU D blk π u π = u := if_pos rfl
theorem snoc_inj {ρ π : Way} {a b : Bool} (h : ρ ++ [a] = π ++ [b]) : ρ = π ∧ a = b := by
  have := List.append_inj' h rfl
  exact ⟨this.1, by simpa using this.2⟩
theorem TrieAt.but (h : TrieAt K w bt n D m blk) (π : Way) : TrieBut K w bt n D m blk π (ptrT D blk π) := by
  have e : ∀ ρ, ptrU D blk π (ptrT D blk π) ρ = ptrT D blk ρ := fun ρ => by
    unfold ptrU; split
    · rename_i h; rw [h]
    · rfl
  refine ⟨fun ρ hp => ?_, h.nodes.inj, h.nodes.up, h.nodes.sup, ?_, h.ne⟩
  · unfold nodeU; rw [e, e]; exact h.nodes.lies ρ hp
  · rw [e]; exact h.root
theorem TrieBut.keep {π : Way} {u : Value} (h : TrieBut K w bt n D m blk π u) (hk : ∀ b, b = bt ∨ (∃ ρ, D ρ = true ∧ b = blk ρ) → w'.heap[b]? = w.heap[b]?) : TrieBut K w' bt n D m blk π u :=
  ⟨fun ρ hp => (hk _ (.inr ⟨ρ, hp, rfl⟩)).trans (h.lies ρ hp), h.inj, h.up, h.sup, (hk _ (.inl rfl)).trans h.root, h.ne⟩
theorem TrieBut.drewN {π : Way} {u : Value} (h : TrieBut K w bt n D m blk π u) (k : Nat) : TrieBut K (w.drewN k) bt n D m blk π u := ⟨h.lies, h.inj, h.up, h.sup, h.root, h.ne⟩
/-- the pointer is written -/
theorem TrieBut.set {π : Way} {u : Value} {s : Addr} (h : TrieBut K w bt n D m blk π u) (hs : IsSlot bt D blk π s) : TrieAt K (w.setCell s (ptrT D blk π)) bt n D m blk := by
  rcases hs with ⟨rfl, rfl⟩ | ⟨ρ0, c, rfl, hD, rfl⟩
  · refine ⟨⟨fun ρ hp => ?_, h.inj, h.up, h.sup⟩, ?_, h.ne⟩
    · rw [Below.heap_setCell _ _ _ _ (h.ne ρ hp), h.lies ρ hp]
      unfold nodeU nodeT
      rw [ptrU_ne (by simp), ptrU_ne (by simp)]
    · exact blk_set h.root 0 _
  · refine ⟨⟨fun ρ hp => ?_, h.inj, h.up, h.sup⟩, ?_, h.ne⟩
    · by_cases e : ρ = ρ0
      · subst e
        rw [blk_set (h.lies ρ hp)]
        cases c with
        | false =>
          unfold nodeU nodeT
          rw [ptrU_eq, ptrU_ne (fun hh => by have := (snoc_inj hh).2; cases this)]
          rfl
        | true =>
          unfold nodeU nodeT
          rw [ptrU_eq, ptrU_ne (fun hh => by have := (snoc_inj hh).2; cases this)]
          rfl
      · rw [Below.heap_setCell _ _ _ _ (fun hh => e (h.inj _ _ hp hD hh)), h.lies ρ hp]
        unfold nodeU nodeT
        rw [ptrU_ne (fun hh => e (snoc_inj hh).1), ptrU_ne (fun hh => e (snoc_inj hh).1)]
    · rw [Below.heap_setCell _ _ _ _ (fun hh => h.ne ρ0 hD hh.symm), h.root, ptrU_ne (by simp)]
/-- a node is put in -/
def addD (D : Way → Bool) (π : Way) : Way → Bool := fun ρ => D ρ || decide (ρ = π)
def addB (blk : Way → Nat) (π : Way) (b : Nat) : Way → Nat := fun ρ => if ρ = π then b else blk ρ
theorem addD_self (D : Way → Bool) (π : Way) : addD D π π = true := by simp [addD]
theorem addD_of {D : Way → Bool} {π ρ : Way} (h : D ρ = true) : addD D π ρ = true := by simp [addD, h]
theorem TrieAt.grow (h : TrieAt K w bt n D m blk) {π : Way} (hD : D π = false) (hup : π = [] ∨ ∃ ρ c, π = ρ ++ [c] ∧ D ρ = true) :
    TrieBut K (w.alloc (.cells #[.pointer none, .pointer none, .bool false, K.emb K.z] K.tn)) bt n (addD D π) m (addB blk π w.heap.size) π (.pointer none) := by
  have hne : ∀ ρ, D ρ = true → ρ ≠ π := fun ρ hp e => by rw [e, hD] at hp; cases hp
  have hkid : ∀ b, D (π ++ [b]) = false := fun b => by
    cases hd : D (π ++ [b]) with
    | false => rfl
    | true => rw [h.nodes.up _ _ hd] at hD; cases hD
  have hptr : ∀ ρ, ptrU (addD D π) (addB blk π w.heap.size) π (.pointer none) ρ = ptrT D blk ρ := fun ρ => by
    unfold ptrU
    split
    · rename_i e; subst e; exact (ptrT_none hD).symm
    · rename_i e
      unfold ptrT addD addB
      simp [e]
  have hm : m π = none := by
    cases hv : m π with
    | none => rfl
    | some v => have := h.nodes.sup π (by rw [hv]; rfl); rw [hD] at this; cases this
  have hcase : ∀ ρ, addD D π ρ = true → ρ = π ∨ D ρ = true := fun ρ hp => by
    unfold addD at hp
    rcases Bool.or_eq_true_iff.1 hp with h1 | h1
    · exact .inr h1
    · exact .inl (by simpa using h1)
  have hb1 : addB blk π w.heap.size π = w.heap.size := by simp [addB]
  have hb2 : ∀ ρ, D ρ = true → addB blk π w.heap.size ρ = blk ρ := fun ρ hp => by unfold addB; rw [if_neg (hne ρ hp)]
  refine ⟨fun ρ hp => ?_, fun ρ σ hp hq he => ?_, fun ρ b hp => ?_, fun ρ hp => addD_of (h.nodes.sup ρ hp), ?_, fun ρ hp => ?_⟩
  · unfold nodeU
    rw [hptr, hptr]
    rcases hcase ρ hp with rfl | hd
    · rw [hb1, heap_alloc_new, ptrT_none (hkid _), ptrT_none (hkid _), hm]
      rfl
    · rw [hb2 ρ hd]
      exact blk_alloc (h.nodes.lies ρ hd) _
  · rcases hcase ρ hp with rfl | hd <;> rcases hcase σ hq with rfl | hd2
    · rfl
    · rw [hb1, hb2 σ hd2] at he
      have := h.nodes.lt hd2; omega
    · rw [hb1, hb2 ρ hd] at he
      have := h.nodes.lt hd; omega
    · rw [hb2 ρ hd, hb2 σ hd2] at he
      exact h.nodes.inj _ _ hd hd2 he
  · rcases hcase _ hp with e | hd
    · rcases hup with e2 | ⟨σ, c, e2, hd⟩
      · rw [e2] at e; simp at e
      · rw [e2] at e
        obtain ⟨rfl, _⟩ := snoc_inj e
        exact addD_of hd
    · exact addD_of (h.nodes.up _ _ hd)
  · rw [hptr]
    exact blk_alloc h.root _
  · rcases hcase ρ hp with rfl | hd
    · rw [hb1]; have := blk_lt h.root; omega
    · rw [hb2 ρ hd]; exact h.ne ρ hd
/-- a value is written -/
def putM (m : Way → Option V) (π : Way) (v : Option V) : Way → Option V := fun ρ => if ρ = π then v else m ρ
theorem putM_self (m : Way → Option V) (π : Way) (v : Option V) : putM m π v π = v := by simp [putM]
theorem putM_ne {m : Way → Option V} {π ρ : Way} {v : Option V} (h : ρ ≠ π) : putM m π v ρ = m ρ := by simp [putM, h]
theorem TrieAt.write (h : TrieAt K w bt n D m blk) {π : Way} (hD : D π = true) (v : Option V) :
    TrieAt K ((w.setCell ⟨blk π, 2, none⟩ (.bool v.isSome)).setCell ⟨blk π, 3, none⟩ (K.emb (v.getD K.z))) bt n D (putM m π v) blk := by
  refine ⟨⟨fun ρ hp => ?_, h.nodes.inj, h.nodes.up, fun ρ hp => ?_⟩, ?_, h.ne⟩
  · by_cases e : ρ = π
    · subst e
      rw [blk_set (blk_set (h.nodes.lies ρ hp) 2 _)]
      unfold nodeT
      rw [putM_self]
      rfl
    · have hb : blk ρ ≠ blk π := fun hh => e (h.nodes.inj _ _ hp hD hh)
      rw [Below.heap_setCell _ _ _ _ hb, Below.heap_setCell _ _ _ _ hb, h.nodes.lies ρ hp]
      unfold nodeT
      rw [putM_ne e]
  · by_cases e : ρ = π
    · rw [e]; exact hD
    · rw [putM_ne e] at hp; exact h.nodes.sup ρ hp
  · rw [Below.heap_setCell _ _ _ _ (fun hh => h.ne π hD hh.symm), Below.heap_setCell _ _ _ _ (fun hh => h.ne π hD hh.symm)]
    exact h.root
/-- how many is written -/
theorem TrieAt.count (h : TrieAt K w bt n D m blk) (n' : Int) : TrieAt K (w.setCell ⟨bt, 1, none⟩ (.int .i64 n')) bt n' D m blk := by
  refine ⟨h.nodes.keep (fun π hp => Below.heap_setCell _ _ _ _ (h.ne π hp)), ?_, h.ne⟩
  rw [blk_set h.root]
  rfl
/-- a node without value and kids is taken away -/
def delD (D : Way → Bool) (π : Way) : Way → Bool := fun ρ => D ρ && !decide (ρ = π)
theorem TrieAt.lop (h : TrieAt K w bt n D m blk) {π : Way} (hm : m π = none) (hk : ∀ b, D (π ++ [b]) = false) : TrieBut K w bt n (delD D π) m blk π (ptrT D blk π) := by
  have hcase : ∀ ρ, delD D π ρ = true → D ρ = true ∧ ρ ≠ π := fun ρ hp => by unfold delD at hp; simpa using hp
  have hptr : ∀ ρ, ptrU (delD D π) blk π (ptrT D blk π) ρ = ptrT D blk ρ := fun ρ => by
    unfold ptrU
    split
    · rename_i e; rw [e]
    · rename_i e; unfold ptrT delD; simp [e]
  refine ⟨fun ρ hp => ?_, fun ρ σ hp hq he => h.nodes.inj _ _ (hcase ρ hp).1 (hcase σ hq).1 he, fun ρ b hp => ?_, fun ρ hp => ?_, ?_, fun ρ hp => h.ne ρ (hcase ρ hp).1⟩
  · unfold nodeU
    rw [hptr, hptr]
    exact h.nodes.lies ρ (hcase ρ hp).1
  · obtain ⟨h1, h2⟩ := hcase _ hp
    have h3 := h.nodes.up _ _ h1
    unfold delD
    simp only [h3, Bool.true_and, Bool.not_eq_true', decide_eq_false_iff_not]
    intro e
    subst e
    rw [hk b] at h1; cases h1
  · unfold delD
    have h3 := h.nodes.sup ρ hp
    simp only [h3, Bool.true_and, Bool.not_eq_true', decide_eq_false_iff_not]
    intro e
    subst e
    rw [hm] at hp; cases hp
  · rw [hptr]
    exact h.root
end
theorem cell_keep {X w' : World} (h : Below X.heap.size X w') {p : Addr} {v : Value} (hc : X.cell? p = some v) : w'.cell? p = some v := (h.cell (World.block_lt_of_cell? _ _ hc)).trans hc
theorem Kb.cell {own : Nat → Prop} {w w' : World} (hk : Kb own w w') {p : Addr} {v : Value} (hc : w.cell? p = some v) (ho : ¬ own p.block) : w'.cell? p = some v := by
  have hb := hk.block _ (World.block_lt_of_cell? _ _ hc) ho
  unfold World.cell? at hc ⊢; rw [hb]; exact hc
end Go.Proofs.Ytnihacajjpcjeaa

end
section
namespace Go.Proofs.Ytnihacajjpcjeaa
open Go.RowKit Go.Proofs.Ytnihacajjpcjeaa.P Go.Proofs.YtnihacajjpcjeaaW.PrintWords Go.Proofs.YtnihacajjpcjeaaW.PrintLast Go.Proofs.YtnihacajjpcjeaaW.PrintMore
set_option linter.unusedVariables false
set_option linter.unusedSimpArgs false

/-- where the pointer to the i-th node on the way of an address stands -/
def slotA (bt : Nat) (blk : Way → Nat) (a : Int) : Nat → Addr
  | 0 => ⟨bt, 0, none⟩
  | i + 1 => ⟨blk (wayA a i), (bitB a i).toNat, none⟩
theorem slotA_is {bt : Nat} {D : Way → Bool} {blk : Way → Nat} {a : Int} {i : Nat} (h : ∀ j, j < i → D (wayA a j) = true) : IsSlot bt D blk (wayA a i) (slotA bt blk a i) := by
  cases i with
  | zero => exact .inl ⟨rfl, rfl⟩
  | succ i => exact .inr ⟨wayA a i, bitB a i, rfl, h i (by omega), rfl⟩
theorem slotA_cell {V : Type} {K : TK V} {w : World} {bt : Nat} {n : Int} {D : Way → Bool} {m : Way → Option V} {blk : Way → Nat} {a : Int} {i : Nat} (hT : TrieAt K w bt n D m blk) (h : ∀ j, j < i → D (wayA a j) = true) : w.cell? (slotA bt blk a i) = some (ptrT D blk (wayA a i)) ∧ w.frozen? (slotA bt blk a i) = false ∧ ∃ b o, slotA bt blk a i = ⟨b, o, none⟩ := by
  cases i with
  | zero => exact ⟨hT.cell0, froz_blk hT.root 0, _, _, rfl⟩
  | succ i => exact ⟨hT.nodes.kid (h i (by omega)) _, froz_blk (hT.nodes.lies _ (h i (by omega))) _, _, _, rfl⟩
theorem Kb.alloc {own : Nat → Prop} {a w : World} (h : Kb own a w) (o : Obj) : Kb own a (w.alloc o) :=
  h.trans (Kb.of_below (Below.alloc (Below.refl _ w) (Nat.le_refl _) o))
theorem Kb.set {own : Nat → Prop} {a w : World} (h : Kb own a w) {s : Addr} (u : Value) (hb : own s.block ∨ a.heap.size ≤ s.block) : Kb own a (w.setCell s u) :=
  ⟨h.os, h.tape, h.output, by simp [World.setCell]; exact h.size, fun i hi ho => by
    rw [Below.heap_setCell _ _ _ _ (fun e => by
      rcases hb with h1 | h1
      · exact ho (e ▸ h1)
      · omega)]
    exact h.block i hi ho⟩
theorem Kb.step {own : Nat → Prop} {a b c : World} (h : Kb own a b) (k : Below b.heap.size b c) : Kb own a c := h.trans (Kb.of_below k)
theorem slotA_addB {bt : Nat} {blk : Way → Nat} {a : Int} {i : Nat} (b : Nat) : slotA bt (addB blk (wayA a i) b) a i = slotA bt blk a i := by
  cases i with
  | zero => rfl
  | succ i =>
    have : wayA a i ≠ wayA a (i + 1) := fun e => by have := congrArg List.length e; simp [wayA_len] at this
    show (⟨addB blk (wayA a (i + 1)) b (wayA a i), (bitB a i).toNat, none⟩ : Addr) = ⟨blk (wayA a i), (bitB a i).toNat, none⟩
    rw [show addB blk (wayA a (i + 1)) b (wayA a i) = blk (wayA a i) from if_neg this]
def ownN (own : Nat → Prop) (w w' : World) : Nat → Prop := fun b => own b ∨ (w.heap.size ≤ b ∧ b < w'.heap.size)

set_option maxHeartbeats 8000000 in
set_option maxRecDepth 100000 in
theorem put_not (w : World) (bt : Nat) (a b v : Int) (hM : addr_May.f a b = some false) :
    Calls Try.prog 33 #[.pointer (some ⟨bt, 0, none⟩), .agg #[.int .u32 a, .int .i64 b], .int .i64 v] w fun e w' => e = .returned (.tuple #[.bool false, .int .i64 1]) ∧ Below w.heap.size w w' := by
  have HM := mkHid hM
  have HB0 : Hid (Below w.heap.size w (w.alloc (.cells #[.int .u32 a, .int .i64 b] 34))) := Below.alloc (Below.refl _ w) (Nat.le_refl _) _
  clear hM
  go_enter Try.func33, Try.ntmps33
  go_wp2_with fail
  refine (addr_May.calls a b false _ HM.out).mono ?_
  rintro e w1 ⟨rfl, hb⟩
  have HB := mkHid (below_step HB0.out hb)
  clear hb
  go_wp2_with fail
  go_ret2
  exact ⟨rfl, HB.out⟩
set_option maxHeartbeats 8000000 in
set_option maxRecDepth 100000 in
theorem put_calls (w : World) (bt : Nat) (own : Nat → Prop) (n : Int) (m : Way → Option Int) (hT : Tri kI w bt own n m) (a : Int) (N : Nat) (v : Int) (h0 : 0 ≤ a) (h1 : a < 4294967296) (b1 : N ≤ 32) (n0 : 0 ≤ n) (n1 : n < 1000000) (hM : addr_May.f a N = some true) (n' : Int) (hn' : n' = if (m (wayA a N)).isSome = true then n else n + 1) :
    Calls Try.prog 33 #[.pointer (some ⟨bt, 0, none⟩), .agg #[.int .u32 a, .int .i64 N], .int .i64 v] w fun e w' => e = .returned (.tuple #[.bool (m (wayA a N)).isSome, .int .i64 0]) ∧
      Tri kI w' bt (ownN own w w') n' (putM m (wayA a N) (some v)) ∧ Kb own w w' := by
  have HM := mkHid hM
  have HN' := mkHid hn'
  clear hn'
  have HB0 : Hid (Below w.heap.size w (w.alloc (.cells #[.int .u32 a, .int .i64 N] 34))) := Below.alloc (Below.refl _ w) (Nat.le_refl _) _
  obtain ⟨D0, blk0, g1, g2, g3, g4⟩ := hT
  have G1 := mkHid g1
  have G2 := mkHid g2
  have G3 : Hid (own bt ∧ bt < w.heap.size) := ⟨g3, blk_lt g1.root⟩
  have G4 : Hid (∀ π, D0 π = true → own (blk0 π) ∧ blk0 π < w.heap.size) := fun π hp => ⟨g4 π hp, g1.nodes.lt hp⟩
  have hx0 : (w.alloc (.cells #[.int .u32 a, .int .i64 N] 34)).cell? ⟨w.heap.size, 0, none⟩ = some (.int .u32 a) := by go_simp
  have hx1 : (w.alloc (.cells #[.int .u32 a, .int .i64 N] 34)).cell? ⟨w.heap.size, 1, none⟩ = some (.int .i64 N) := by go_simp
  clear hM g1 g2 g3 g4
  go_enter Try.func33, Try.ntmps33
  go_wp2_with fail
  refine (addr_May.calls a N true _ HM.out).mono ?_
  rintro e w1 ⟨rfl, hb⟩
  have HB1 := mkHid (below_step HB0.out hb)
  have hs : w.heap.size < w1.heap.size := by have := hb.size; simp at this; omega
  have q0 : w1.cell? ⟨w.heap.size, 0, none⟩ = some (.int .u32 a) := (hb.cell (by simp)).trans hx0
  have q1 : w1.cell? ⟨w.heap.size, 1, none⟩ = some (.int .i64 N) := (hb.cell (by simp)).trans hx1
  have HT1 := mkHid (G1.out.below HB1.out)
  clear hb hx0 hx1 G1
  go_wp2_with fail
  go_loopg [8, 9] N (fun kq v8 v9 wr => ∃ (i : Nat) (D : Way → Bool) (blk : Way → Nat), v9 = .int .i64 i ∧ i ≤ N ∧ v8 = .pointer (some (slotA bt blk a i)) ∧ i + kq = N ∧ wr.cell? ⟨w.heap.size, 0, none⟩ = some (.int .u32 a) ∧ wr.cell? ⟨w.heap.size, 1, none⟩ = some (.int .i64 N) ∧ w.heap.size < wr.heap.size ∧ Hid (TrieAt kI wr bt n D m blk) ∧ Hid (∀ j, j < i → D (wayA a j) = true) ∧ Hid (∀ π, D π = true → (∃ ρ, (m (π ++ ρ)).isSome = true) ∨ ∃ j, j ≤ N ∧ π = wayA a j) ∧ Hid (∀ π, D π = true → (own (blk π) ∧ blk π < w.heap.size) ∨ w.heap.size < blk π) ∧ Hid (Kb own w wr))
  case atStart => exact ⟨0, D0, blk0, rfl, by omega, rfl, by omega, q0, q1, hs, HT1.out, fun j hj => absurd hj (by omega), fun π hp => .inl (G2.out π hp), fun π hp => .inl (G4.out π hp), Kb.of_below HB1.out⟩
  case round =>
    clear q0 q1 hs HT1 HB1 HB0 G2 G4
    obtain ⟨i, D, blk, rfl, hi, rfl, hk, q0, q1, hs, HT, HJ, HG, HO, HK⟩ := hrel
    obtain ⟨c0, c1, b, o, hsl⟩ := slotA_cell HT.out HJ.out
    have HSL := mkHid hsl
    have hbo : Hid ((own b ∧ b < w.heap.size) ∨ w.heap.size < b) := by
      have hsl := HSL.out
      cases i with
      | zero => injection hsl with e1 _ _; rw [← e1]; exact .inl G3.out
      | succ i => injection hsl with e1 _ _; rw [← e1]; exact HO.out _ (HJ.out i (by omega))
    have hbs : b ≠ w.heap.size := by rcases hbo.out with h | h <;> omega
    rw [hsl] at c0 c1
    rw [hsl]
    clear hsl
    cases hD : D (wayA a i)
    case' true =>
      rw [ptrT_some hD] at c0
      go_upto_region 8 with fail
      obtain ⟨W, hW⟩ : ∃ W, W = wr := ⟨_, rfl⟩
      obtain ⟨D1, hD1⟩ : ∃ D1, D1 = D := ⟨_, rfl⟩
      obtain ⟨blk1, hblk1⟩ : ∃ blk1, blk1 = blk := ⟨_, rfl⟩
      have HT2 : Hid (TrieAt kI W bt n D1 m blk1) := by rw [hW, hD1, hblk1]; exact HT.out
      have HSL1 : Hid (slotA bt blk1 a i = ⟨b, o, none⟩) := by rw [hblk1]; exact HSL.out
      have HJ1 : Hid (∀ j, j < i + 1 → D1 (wayA a j) = true) := fun j hj => by
        rw [hD1]
        by_cases e : j = i
        · rw [e]; exact hD
        · exact HJ.out j (by omega)
      have HG1 : Hid (∀ π, D1 π = true → (∃ ρ, (m (π ++ ρ)).isSome = true) ∨ ∃ j, j ≤ N ∧ π = wayA a j) := by rw [hD1]; exact HG.out
      have HO1 : Hid (∀ π, D1 π = true → (own (blk1 π) ∧ blk1 π < w.heap.size) ∨ w.heap.size < blk1 π) := by rw [hD1, hblk1]; exact HO.out
      have HK1 : Hid (Kb own w W) := by rw [hW]; exact HK.out
      have q0' : W.cell? ⟨w.heap.size, 0, none⟩ = some (.int .u32 a) := by rw [hW]; exact q0
      have q1' : W.cell? ⟨w.heap.size, 1, none⟩ = some (.int .i64 N) := by rw [hW]; exact q1
      have hs' : w.heap.size < W.heap.size := by rw [hW]; exact hs
      have c0' : W.cell? ⟨b, o, none⟩ = some (.pointer (some ⟨blk1 (wayA a i), 0, none⟩)) := by rw [hW, hblk1]; exact c0
      rw [← hW]
      clear hW hD hD1 hblk1 HJ HSL HT c1 c0 HG HO HK q0 q1 hs
    case' false =>
      rw [ptrT_none hD] at c0
      have HG0 := mkHid (HT.out.grow hD (by
        cases i with
        | zero => exact .inl rfl
        | succ i => exact .inr ⟨wayA a i, bitB a i, rfl, HJ.out i (by omega)⟩))
      have hbw : b < wr.heap.size := World.block_lt_of_cell? _ _ c0
      have hba : Hid (Below wr.heap.size wr (wr.alloc (.cells #[.pointer none, .pointer none, .bool false, .int .i64 0] 84))) := Below.alloc (Below.refl _ wr) (Nat.le_refl _) _
      have c2 : (wr.alloc (.cells #[.pointer none, .pointer none, .bool false, .int .i64 0] 84)).cell? ⟨b, o, none⟩ = some (.pointer none) := (hba.out.cell hbw).trans c0
      have c3 : (wr.alloc (.cells #[.pointer none, .pointer none, .bool false, .int .i64 0] 84)).frozen? ⟨b, o, none⟩ = false := (hba.out.frozen hbw).trans c1
      go_upto_region 8 with fail
      obtain ⟨W, hW⟩ : ∃ W, W = (wr.alloc (.cells #[.pointer none, .pointer none, .bool false, .int .i64 0] 84)).setCell ⟨b, o, none⟩ (.pointer (some ⟨wr.heap.size, 0, none⟩)) := ⟨_, rfl⟩
      obtain ⟨D1, hD1⟩ : ∃ D1, D1 = addD D (wayA a i) := ⟨_, rfl⟩
      obtain ⟨blk1, hblk1⟩ : ∃ blk1, blk1 = addB blk (wayA a i) wr.heap.size := ⟨_, rfl⟩
      have hcase : ∀ π, D1 π = true → π = wayA a i ∨ (D π = true ∧ π ≠ wayA a i) := fun π hp => by
        rw [hD1] at hp
        by_cases e : π = wayA a i
        · exact .inl e
        · exact .inr ⟨by unfold addD at hp; simpa [e] using hp, e⟩
      have hself : blk1 (wayA a i) = wr.heap.size := by rw [hblk1]; exact if_pos rfl
      have hother : ∀ π, π ≠ wayA a i → blk1 π = blk π := fun π hp => by rw [hblk1]; exact if_neg hp
      have HSL1 : Hid (slotA bt blk1 a i = ⟨b, o, none⟩) := by rw [hblk1]; exact (slotA_addB _).trans HSL.out
      have HJ1 : Hid (∀ j, j < i + 1 → D1 (wayA a j) = true) := fun j hj => by
        rw [hD1]
        by_cases e : j = i
        · rw [e]; exact addD_self _ _
        · exact addD_of (HJ.out j (by omega))
      have hisl : IsSlot bt D1 blk1 (wayA a i) ⟨b, o, none⟩ := by rw [← HSL1.out]; exact slotA_is (fun j hj => HJ1.out j (by omega))
      have hpt : ptrT D1 blk1 (wayA a i) = .pointer (some ⟨wr.heap.size, 0, none⟩) := by rw [ptrT_some (HJ1.out i (by omega)), hself]
      have HT2 : Hid (TrieAt kI W bt n D1 m blk1) := by
        have h := HG0.out
        rw [← hD1, ← hblk1] at h
        have h2 := h.set hisl
        rw [hpt] at h2
        rw [hW]; exact h2
      have HG1 : Hid (∀ π, D1 π = true → (∃ ρ, (m (π ++ ρ)).isSome = true) ∨ ∃ j, j ≤ N ∧ π = wayA a j) := fun π hp => by
        rcases hcase π hp with e | ⟨h, _⟩
        · exact .inr ⟨i, hi, e⟩
        · exact HG.out π h
      have HO1 : Hid (∀ π, D1 π = true → (own (blk1 π) ∧ blk1 π < w.heap.size) ∨ w.heap.size < blk1 π) := fun π hp => by
        rcases hcase π hp with e | ⟨h, e⟩
        · rw [e, hself]; exact .inr hs
        · rw [hother π e]; exact HO.out π h
      have HK1 : Hid (Kb own w W) := by
        rw [hW]
        exact (HK.out.alloc _).set _ (hbo.out.elim (fun h => .inl h.1) (fun h => .inr (Nat.le_of_lt h)))
      have q0' : W.cell? ⟨w.heap.size, 0, none⟩ = some (.int .u32 a) := by
        rw [hW, World.cell?_setCell_other _ _ _ _ (fun e => hbs (congrArg Addr.block e))]
        exact (hba.out.cell hs).trans q0
      have q1' : W.cell? ⟨w.heap.size, 1, none⟩ = some (.int .i64 N) := by
        rw [hW, World.cell?_setCell_other _ _ _ _ (fun e => hbs (congrArg Addr.block e))]
        exact (hba.out.cell hs).trans q1
      have hs' : w.heap.size < W.heap.size := by rw [hW]; simp [World.setCell]; omega
      have c0' : W.cell? ⟨b, o, none⟩ = some (.pointer (some ⟨blk1 (wayA a i), 0, none⟩)) := by
        rw [hself, hW]
        exact World.cell?_setCell_same _ _ _ c2
      rw [← World.setCell_alloc_past _ _ _ _ hbw, ← hW]
      clear hW hD1 hblk1 hcase hself hother hisl hpt c0 c1 c2 c3 hba HG0 HJ HSL HT HG HO HK q0 q1 hs hbw hD
    all_goals
      clear hbo hbs
      have hDi : D1 (wayA a i) = true := HJ1.out i (by omega)
      by_cases hin : i = N
      · subst hin
        obtain ⟨g, hg⟩ : ∃ g, g = blk1 (wayA a i) := ⟨_, rfl⟩
        have c2 : W.cell? ⟨g, 2, none⟩ = some (.bool (m (wayA a i)).isSome) := by rw [hg]; exact HT2.out.nodes.is hDi
        have c3 : W.cell? ⟨g, 3, none⟩ = some (.int .i64 ((m (wayA a i)).getD 0)) := by rw [hg]; exact HT2.out.nodes.val hDi
        have f2 : W.frozen? ⟨g, 2, none⟩ = false := by rw [hg]; exact froz_blk (HT2.out.nodes.lies _ hDi) _
        have f3 : W.frozen? ⟨g, 3, none⟩ = false := by rw [hg]; exact froz_blk (HT2.out.nodes.lies _ hDi) _
        have HT3 : Hid (TrieAt kI ((W.setCell ⟨g, 2, none⟩ (.bool true)).setCell ⟨g, 3, none⟩ (.int .i64 v)) bt n D1 (putM m (wayA a i) (some v)) blk1) := by rw [hg]; exact HT2.out.write hDi (some v)
        have hog : Hid (own g ∨ w.heap.size ≤ g) := by rw [hg]; exact (HO1.out _ hDi).elim (fun h => .inl h.1) (fun h => .inr (Nat.le_of_lt h))
        have HK3 : Hid (Kb own w ((W.setCell ⟨g, 2, none⟩ (.bool true)).setCell ⟨g, 3, none⟩ (.int .i64 v))) := (HK1.out.set _ hog.out).set _ hog.out
        have d1 := HT3.out.cell1
        have e1 : ((W.setCell ⟨g, 2, none⟩ (.bool true)).setCell ⟨g, 3, none⟩ (.int .i64 v)).frozen? ⟨bt, 1, none⟩ = false := froz_blk HT3.out.root 1
        have HGG : Hid (∀ π, D1 π = true → ∃ ρ, (putM m (wayA a i) (some v) (π ++ ρ)).isSome = true) := fun π hp => by
          have hw : ∀ j, j ≤ i → ∃ ρ, (putM m (wayA a i) (some v) (wayA a j ++ ρ)).isSome = true := fun j hj => by
            obtain ⟨ρ, hρ⟩ := wayA_split a hj
            exact ⟨ρ, by rw [← hρ, putM_self]; rfl⟩
          rcases HG1.out π hp with ⟨ρ, hr⟩ | ⟨j, hj, rfl⟩
          · by_cases e : π ++ ρ = wayA a i
            · exact ⟨ρ, by rw [e, putM_self]; rfl⟩
            · exact ⟨ρ, by rw [putM_ne e]; exact hr⟩
          · exact hw j hj
        have HLT : Hid (∀ π, D1 π = true → ownN own w ((W.setCell ⟨g, 2, none⟩ (.bool true)).setCell ⟨g, 3, none⟩ (.int .i64 v)) (blk1 π)) := fun π hp => by
          rcases HO1.out π hp with h | h
          · exact .inl h.1
          · exact .inr ⟨Nat.le_of_lt h, HT3.out.nodes.lt hp⟩
        have hwn : IntKind.i64.wrap (n + 1) = n + 1 := IntWalk.i64_in _ (by omega)
        rw [← hg] at c0'
        clear hDi HJ1 HSL1 HG1 HO1 HK1 hg HT2
        cases hm : (m (wayA a i)).isSome with
        | true =>
          rw [hm] at c2
          go_wp2_with fail
          go_ret2
          exact ⟨by rw [hm]; rfl, ⟨D1, blk1, by rw [show n' = n by have := HN'.out; rw [if_pos hm] at this; exact this]; exact HT3.out, HGG.out, .inl G3.out.1, HLT.out⟩, HK3.out⟩
        | false =>
          rw [hm] at c2
          go_wp2_with fail
          go_ret2
          exact ⟨by rw [hm]; rfl, ⟨D1, blk1, by rw [show n' = n + 1 by have := HN'.out; rw [if_neg (by rw [hm]; simp)] at this; exact this]; exact HT3.out.count (n + 1), HGG.out, .inl G3.out.1, fun π hp => by
            rcases HLT.out π hp with h | ⟨h, h2⟩
            · exact .inl h
            · exact .inr ⟨h, by simpa [World.setCell] using h2⟩⟩, HK3.out.set _ (.inl G3.out.1)⟩
      · have hk0 : W.cell? ⟨blk1 (wayA a i), 0, none⟩ = some (ptrT D1 blk1 (wayA a i ++ [false])) := HT2.out.nodes.kid hDi false
        have hk1 : W.cell? ⟨blk1 (wayA a i), 1, none⟩ = some (ptrT D1 blk1 (wayA a i ++ [true])) := HT2.out.nodes.kid hDi true
        have hbit : Hid (trie_bit.f a (i : Int) = some ((bitB a i).toNat : Int)) := tbit_ev a i h0 h1 (by omega)
        have hne : decide ((i : Int) = (N : Int)) = false := decide_eq_false (by omega)
        have hne' : ((i : Int) == (N : Int)) = false := beq_eq_false_iff_ne.mpr (by omega)
        clear hDi HSL1
        cases hB : bitB a i with
        | false =>
          rw [hB] at hbit
          go_upto_region 9 with fail
          go_quiet ((first | (go_at_call 45; (with_reducible refine (trie_bit.calls a i ((false.toNat : Nat) : Int) _ hbit.out).mono ?_); rintro e w' ⟨rfl, ⟨nd, rfl⟩⟩; (try first | exact ⟨rfl, _, World.drewN_drewN _ _ _⟩))))
          go_wp2_with fail
          go_roundg (gk - 1)
          case measure => omega
          case rel => exact ⟨i + 1, D1, blk1, rfl, by omega, by rw [show slotA bt blk1 a (i + 1) = ⟨blk1 (wayA a i), (bitB a i).toNat, none⟩ from rfl, hB]; rfl, by omega, q0', q1', hs', HT2.out.drewN _, HJ1.out, HG1.out, HO1.out, HK1.out.drewN _⟩
        | true =>
          rw [hB] at hbit
          go_upto_region 9 with fail
          go_quiet ((first | (go_at_call 45; (with_reducible refine (trie_bit.calls a i ((true.toNat : Nat) : Int) _ hbit.out).mono ?_); rintro e w' ⟨rfl, ⟨nd, rfl⟩⟩; (try first | exact ⟨rfl, _, World.drewN_drewN _ _ _⟩))))
          go_wp2_with fail
          go_roundg (gk - 1)
          case measure => omega
          case rel => exact ⟨i + 1, D1, blk1, rfl, by omega, by rw [show slotA bt blk1 a (i + 1) = ⟨blk1 (wayA a i), (bitB a i).toNat, none⟩ from rfl, hB]; rfl, by omega, q0', q1', hs', HT2.out.drewN _, HJ1.out, HG1.out, HO1.out, HK1.out.drewN _⟩
end Go.Proofs.Ytnihacajjpcjeaa

end
section
namespace Go.Proofs.Ytnihacajjpcjeaa
open Go.RowKit Go.Proofs.Ytnihacajjpcjeaa.P Go.Proofs.YtnihacajjpcjeaaW.PrintWords Go.Proofs.YtnihacajjpcjeaaW.PrintLast Go.Proofs.YtnihacajjpcjeaaW.PrintMore
set_option linter.unusedVariables false
set_option linter.unusedSimpArgs false

/-- the first i bits of an address -/
def adrA (a : Int) (i : Nat) : Int := a - a % 2 ^ (32 - i)
theorem adrA_zero (a : Int) (h0 : 0 ≤ a) (h1 : a < 4294967296) : adrA a 0 = 0 := by
  unfold adrA; rw [show (2 : Int) ^ (32 - 0) = 4294967296 by decide]; omega
theorem two_pow_step (i : Nat) (hi : i < 32) : (2 : Int) ^ (32 - i) = 2 * 2 ^ (31 - i) := by
  rw [show 32 - i = (31 - i) + 1 by omega, Int.pow_succ]; omega
theorem adrA_step (a : Int) (i : Nat) (hi : i < 32) : adrA a (i + 1) = adrA a i + (bitB a i).toNat * 2 ^ (31 - i) := by
  unfold adrA bitB
  rw [two_pow_step i hi, show 32 - (i + 1) = 31 - i by omega]
  obtain ⟨p, hp⟩ : ∃ p : Int, p = 2 ^ (31 - i) := ⟨_, rfl⟩
  have hpos : 0 < p := by rw [hp]; exact Int.pow_pos (by decide)
  rw [← hp]
  have e : a % (2 * p) = a % p + p * (a / p % 2) := by
    have k1 := Int.emod_add_mul_ediv a p
    have k2 := Int.emod_add_mul_ediv (a / p) 2
    have k3 := Int.emod_nonneg a (Int.ne_of_gt hpos)
    have k4 := Int.emod_lt_of_pos a hpos
    have k5 : a = (a % p + p * (a / p % 2)) + 2 * p * (a / p / 2) := by
      have k6 : p * (a / p) = p * (a / p % 2) + 2 * p * (a / p / 2) := by
        conv => lhs; rw [← k2]
        rw [Int.mul_add, Int.mul_comm 2 p, Int.mul_assoc]
      omega
    have k7 : 0 ≤ a % p + p * (a / p % 2) ∧ a % p + p * (a / p % 2) < 2 * p := by
      rcases Int.emod_two_eq (a / p) with h | h <;> rw [h] <;> omega
    conv => lhs; rw [k5]
    rw [Int.add_mul_emod_self_left]
    exact Int.emod_eq_of_lt k7.1 k7.2
  rw [e]
  rcases Int.emod_two_eq (a / p) with h | h
  · rw [h]; simp
  · rw [h]; simp; omega
theorem or_add (x y : Int) (k : Nat) (hk : k < 32) (h0 : 0 ≤ x) (h1 : x < 4294967296) (hx : x % 2 ^ (k + 1) = 0) (hy : y = 0 ∨ y = 1) : Go.bits .or .u32 x (y * 2 ^ k) = x + y * 2 ^ k := by
  obtain ⟨n, rfl⟩ := Int.eq_ofNat_of_zero_le h0
  obtain ⟨m, hm⟩ : ∃ m : Nat, y = m := ⟨y.toNat, by omega⟩
  have hm1 : m < 2 := by omega
  subst hm
  have e : ((m : Int) * 2 ^ k) = ((m * 2 ^ k : Nat) : Int) := by simp
  rw [e]
  show IntKind.u32.wrap ((BitVec.ofInt 32 (n : Int) ||| BitVec.ofInt 32 ((m * 2 ^ k : Nat) : Int)).toNat : Int) = _
  have hk2 : 2 ^ k ≤ 2 ^ 31 := Nat.pow_le_pow_right (by decide) (by omega)
  have hmk : m * 2 ^ k < 2 ^ 32 := by
    have : m * 2 ^ k ≤ 1 * 2 ^ k := Nat.mul_le_mul_right _ (by omega)
    omega
  have hn : n < 2 ^ 32 := by omega
  have hd : n % 2 ^ (k + 1) = 0 := by
    have : ((n % 2 ^ (k + 1) : Nat) : Int) = 0 := by rw [← hx]; simp
    omega
  have hor : n ||| (m * 2 ^ k) = n + m * 2 ^ k := by
    obtain ⟨q, hq⟩ : ∃ q, n = 2 ^ (k + 1) * q := ⟨n / 2 ^ (k + 1), by have := Nat.div_add_mod n (2 ^ (k + 1)); rw [hd] at this; omega⟩
    have hb : m * 2 ^ k < 2 ^ (k + 1) := by
      rw [Nat.pow_succ]
      have : m * 2 ^ k ≤ 1 * 2 ^ k := Nat.mul_le_mul_right _ (by omega)
      have := Nat.two_pow_pos k
      omega
    rw [hq, ← Nat.two_pow_add_eq_or_of_lt hb]
  rw [IntKind.wrap_u32, ofN, ofN, BitVec.toNat_or, BitVec.toNat_ofNat, BitVec.toNat_ofNat, Nat.mod_eq_of_lt hn, Nat.mod_eq_of_lt hmk, hor]
  have hlt : n + m * 2 ^ k < 2 ^ 32 := by
    rw [← hor]; exact Nat.or_lt_two_pow hn hmk
  omega
theorem adrA_bound (a : Int) (i : Nat) (h0 : 0 ≤ a) (h1 : a < 4294967296) : 0 ≤ adrA a i ∧ adrA a i ≤ a := by
  unfold adrA
  have hpos : (0 : Int) < 2 ^ (32 - i) := Int.pow_pos (by decide)
  have h2 := Int.emod_nonneg a (Int.ne_of_gt hpos)
  have h3 : a % 2 ^ (32 - i) ≤ a := by
    have := Int.emod_add_mul_ediv a (2 ^ (32 - i))
    have := Int.mul_nonneg (Int.le_of_lt hpos) (Int.ediv_nonneg h0 (Int.le_of_lt hpos))
    omega
  omega
theorem adrA_mod (a : Int) (i : Nat) : adrA a i % 2 ^ (32 - i) = 0 := by
  unfold adrA
  rw [Int.sub_emod, Int.emod_emod_of_dvd _ (Int.dvd_refl _), Int.sub_self, Int.zero_emod]
theorem shl_bit (y : Int) (k : Nat) (hk : k < 32) (hy : y = 0 ∨ y = 1) : shl .u32 y (k : Int) = y * 2 ^ k := by
  show IntKind.u32.wrap (y * 2 ^ min ((k : Int)).toNat 32) = _
  rw [Int.toNat_natCast, Nat.min_eq_left (by omega), IntKind.wrap_u32]
  have hk2 : 2 ^ k ≤ 2 ^ 31 := Nat.pow_le_pow_right (by decide) (by omega)
  have hk3 : (2 : Int) ^ k ≤ 2147483648 := by
    have : ((2 ^ k : Nat) : Int) ≤ 2147483648 := by omega
    simpa using this
  have hpos : (0 : Int) < 2 ^ k := Int.pow_pos (by decide)
  rcases hy with rfl | rfl
  · simp
  · rw [Int.one_mul]; omega
theorem adrA_or0 (a : Int) (i : Nat) (hi : i < 32) (h0 : 0 ≤ a) (h1 : a < 4294967296) (hb : bitB a i = false) : Go.bits .or .u32 (adrA a i) 0 = adrA a (i + 1) := by
  have h := or_add (adrA a i) 0 (31 - i) (by omega) (adrA_bound a i h0 h1).1 (by have := (adrA_bound a i h0 h1).2; omega) (by rw [show 31 - i + 1 = 32 - i by omega]; exact adrA_mod a i) (.inl rfl)
  rw [Int.zero_mul] at h
  rw [h, adrA_step a i hi, hb]
  simp
theorem adrA_or1 (a : Int) (i : Nat) (hi : i < 32) (h0 : 0 ≤ a) (h1 : a < 4294967296) (hb : bitB a i = true) : Go.bits .or .u32 (adrA a i) (2 ^ (31 - i) % 4294967296) = adrA a (i + 1) := by
  have h := or_add (adrA a i) 1 (31 - i) (by omega) (adrA_bound a i h0 h1).1 (by have := (adrA_bound a i h0 h1).2; omega) (by rw [show 31 - i + 1 = 32 - i by omega]; exact adrA_mod a i) (.inr rfl)
  rw [Int.one_mul] at h
  have e := shl_bit 1 (31 - i) (by omega) (.inr rfl)
  rw [Int.one_mul] at e
  have e2 : (2 : Int) ^ (31 - i) % 4294967296 = 2 ^ (31 - i) := by
    have hk2 : 2 ^ (31 - i) ≤ 2 ^ 31 := Nat.pow_le_pow_right (by decide) (by omega)
    have hk3 : (2 : Int) ^ (31 - i) ≤ 2147483648 := by
      have : ((2 ^ (31 - i) : Nat) : Int) ≤ 2147483648 := by omega
      simpa using this
    have hpos : (0 : Int) < 2 ^ (31 - i) := Int.pow_pos (by decide)
    omega
  rw [e2, h, adrA_step a i hi, hb]
  simp
end Go.Proofs.Ytnihacajjpcjeaa

end
section
set_option linter.unusedVariables false
set_option linter.unusedSimpArgs false
namespace Go.Proofs.Ytnihacajjpcjeaa.P
open Go.RowKit Go.Proofs.YtnihacajjpcjeaaW.PrintWords Go.Proofs.YtnihacajjpcjeaaW.PrintLast Go.Proofs.YtnihacajjpcjeaaW.PrintMore

/-- how many addresses a prefix of so many bits has -/
def un (b : Int) : Int := 2 ^ (32 - b).toNat
theorem un_pos (b : Int) : 0 < un b := by
  unfold un
  have := Nat.two_pow_pos (32 - b).toNat
  have h2 : (0 : Int) < (((2 : Nat) ^ (32 - b).toNat : Nat) : Int) := by exact_mod_cast this
  simpa using h2
theorem un_succ (b : Int) (h : b < 32) : un b = 2 * un (b + 1) := by
  unfold un
  rw [show (32 - b).toNat = (32 - (b + 1)).toNat + 1 by omega, Int.pow_succ]; omega
/-- an address -/
def isA (a : Int) : Prop := 0 ≤ a ∧ a ≤ 4294967295
/-- may a prefix be? -/
def mayB (a b : Int) : Bool := decide (0 ≤ b) && (decide (b ≤ 32) && decide (a % un b = 0))
theorem mayB_iff (a b : Int) : mayB a b = true ↔ 0 ≤ b ∧ b ≤ 32 ∧ a % un b = 0 := by
  unfold mayB; simp
theorem mask_is (b : Int) (h0 : 0 ≤ b) (h1 : b ≤ 32) : addr_mask.f b = some (4294967296 - un b) := by
  unfold addr_mask.f
  by_cases h : b = 0
  · subst h; rfl
  · rw [if_neg h, wrap64_in _ (by omega) (by omega), if_pos (by omega)]
    have := shl_all (32 - b).toNat (by omega)
    rw [show (((32 - b).toNat : Nat) : Int) = 32 - b by omega] at this
    rw [this]; rfl
theorem may_is (a b : Int) (ha : isA a) : addr_May.f a b = some (mayB a b) := by
  unfold addr_May.f mayB
  by_cases h0 : 0 ≤ b
  · rw [if_pos h0]
    by_cases h1 : b ≤ 32
    · rw [if_pos h1, mask_is b h0 h1, Option.bind_some]
      have := andNot_mask a (32 - b).toNat ha.1 (by have := ha.2; omega) (by omega)
      unfold un
      rw [this]
      simp [h0, h1]
      rfl
    · rw [if_neg h1]; simp [h0, h1]
  · rw [if_neg h0]; simp [h0]
end Go.Proofs.Ytnihacajjpcjeaa.P

end
section
set_option linter.unusedVariables false
set_option linter.unusedSimpArgs false
namespace Go.Proofs.Ytnihacajjpcjeaa.P
open Go.RowKit Go.Proofs.YtnihacajjpcjeaaW.PrintWords Go.Proofs.YtnihacajjpcjeaaW.PrintLast Go.Proofs.YtnihacajjpcjeaaW.PrintMore

/-- the bit of an address at a place -/
def bitI (a i : Int) : Int := a / un (i + 1) % 2
theorem bit_ev : ∀ (d : Nat) (a i : Int), 0 ≤ a → a ≤ 4294967295 → 0 ≤ i → i ≤ 31 → 31 - i = d → Evt (fun k => whirligigref01_Bit.l0 k a i) (bitI a i) := by
  intro d
  induction d with
  | zero =>
    intro a i h0 h1 h2 h3 hd
    obtain rfl : i = 31 := by omega
    refine Evt.step ?_
    simp only [whirligigref01_Bit.l0]
    refine Evt.ite_neg (by omega) (Evt.of fun k => ?_)
    unfold bitI un
    rw [Int.tmod_eq_emod_of_nonneg h0]
    simp
  | succ d ih =>
    intro a i h0 h1 h2 h3 hd
    refine Evt.step ?_
    simp only [whirligigref01_Bit.l0]
    refine Evt.ite_pos (by omega) ?_
    rw [Int.tdiv_eq_ediv_of_nonneg h0, wrap64_in _ (by omega) (by omega), Int.emod_eq_of_lt (by omega) (by omega)]
    have := ih (a / 2) (i + 1) (by omega) (by omega) (by omega) (by omega) (by omega)
    have e : bitI (a / 2) (i + 1) = bitI a i := by
      unfold bitI
      rw [un_succ (i + 1) (by omega), Int.ediv_ediv_of_nonneg (by decide)]
    rw [e] at this
    exact this
theorem refBit_ev (a i : Int) (ha : isA a) (h2 : 0 ≤ i) (h3 : i ≤ 31) : Evt (fun k => whirligigref01_Bit.f k a i) (bitI a i) :=
  bit_ev (31 - i).toNat a i ha.1 ha.2 h2 h3 (by omega)
theorem mod_un (a i : Int) (h : 0 ≤ a) (h1 : i ≤ 31) : a % un i = a % un (i + 1) + un (i + 1) * bitI a i := by
  have hp := un_pos (i + 1)
  rw [un_succ i (by omega)]
  unfold bitI
  have e1 := Int.emod_add_mul_ediv a (un (i + 1))
  have e2 := Int.emod_add_mul_ediv a (2 * un (i + 1))
  have e3 := Int.emod_add_mul_ediv (a / un (i + 1)) 2
  have e4 : a / un (i + 1) / 2 = a / (2 * un (i + 1)) := by rw [Int.ediv_ediv_of_nonneg (Int.le_of_lt hp), Int.mul_comm]
  rw [e4] at e3
  generalize a / (2 * un (i + 1)) = q at *
  generalize a / un (i + 1) % 2 = s at *
  generalize a / un (i + 1) = p at *
  generalize un (i + 1) = u at *
  have e5 : u * p = u * s + 2 * u * q := by
    rw [← e3, Int.mul_add, ← Int.mul_assoc, Int.mul_comm u 2]
  omega
theorem refMayLoop_ev : ∀ (d : Nat) (a i b : Int), isA a → 0 ≤ i → i ≤ 32 → 32 - i = d → Evt (fun k => whirligigref01_May.l0 k i a b) (decide (a % un i = 0)) := by
  intro d
  induction d with
  | zero =>
    intro a i b ha h0 h1 hd
    obtain rfl : i = 32 := by omega
    refine Evt.step ?_
    simp only [whirligigref01_May.l0]
    refine Evt.ite_neg (by omega) (Evt.of fun k => ?_)
    have : a % un 32 = 0 := by show a % 1 = 0; omega
    rw [this]; rfl
  | succ d ih =>
    intro a i b ha h0 h1 hd
    refine Evt.step ?_
    simp only [whirligigref01_May.l0]
    refine Evt.ite_pos (by omega) ?_
    refine Evt.bind (refBit_ev a i ha h0 (by omega)) ?_
    have hm := mod_un a i ha.1 (by omega)
    have hp := un_pos (i + 1)
    have hr : 0 ≤ a % un (i + 1) := Int.emod_nonneg _ (by omega)
    by_cases hb : bitI a i = 0
    · refine Evt.ite_pos hb ?_
      rw [wrap64_in _ (by omega) (by omega)]
      have := ih a (i + 1) b ha (by omega) (by omega) (by omega)
      rw [hb, Int.mul_zero, Int.add_zero] at hm
      rw [hm]; exact this
    · refine Evt.ite_neg hb (Evt.of fun k => ?_)
      have hb1 : bitI a i = 1 := by unfold bitI at *; omega
      rw [hb1, Int.mul_one] at hm
      rw [decide_eq_false (by omega)]
theorem refMay_ev (a b : Int) (ha : isA a) : Evt (fun k => whirligigref01_May.f k a b) (mayB a b) := by
  unfold whirligigref01_May.f mayB
  by_cases h0 : b < 0
  · refine Evt.ite_pos h0 (Evt.step ?_)
    simp only [whirligigref01_May.j0]
    refine Evt.ite_pos (by simp) (Evt.of fun k => ?_)
    rw [decide_eq_false (by omega : ¬ 0 ≤ b)]; rfl
  · refine Evt.ite_neg h0 (Evt.step ?_)
    simp only [whirligigref01_May.j0]
    by_cases h1 : b > 32
    · refine Evt.ite_pos (decide_eq_true h1) (Evt.of fun k => ?_)
      rw [decide_eq_false (by omega : ¬ b ≤ 32)]; simp
    · refine Evt.ite_neg (by simpa using h1) ?_
      have := refMayLoop_ev (32 - b).toNat a b b ha (by omega) (by omega) (by omega)
      rw [decide_eq_true (by omega : 0 ≤ b), decide_eq_true (by omega : b ≤ 32)]
      exact this
end Go.Proofs.Ytnihacajjpcjeaa.P

end
section
namespace Go.Proofs.Ytnihacajjpcjeaa
open Go.RowKit Go.Proofs.Ytnihacajjpcjeaa.P Go.Proofs.YtnihacajjpcjeaaW.PrintWords Go.Proofs.YtnihacajjpcjeaaW.PrintLast Go.Proofs.YtnihacajjpcjeaaW.PrintMore
set_option linter.unusedVariables false
set_option linter.unusedSimpArgs false

def okP (x : S34) : Prop := isA x.f0 ∧ mayB x.f0 x.f1 = true
def wayP (x : S34) : Way := wayA x.f0 x.f1.toNat
def befP (x y : S34) : Prop := x.f0 < y.f0 ∨ (x.f0 = y.f0 ∧ x.f1 < y.f1)
def bef (x y : S43) : Prop := befP x.f0 y.f0
/-- the list l stands for the values m -/
structure Rel (m : Way → Option Int) (l : List S43) : Prop where
  srt : l.Pairwise bef
  ok : ∀ x ∈ l, okP x.f0 ∧ m (wayP x.f0) = some x.f1
  all : ∀ π v, m π = some v → ∃ x ∈ l, wayP x.f0 = π
theorem befP_trans {x y z : S34} (h : befP x y) (k : befP y z) : befP x z := by unfold befP at *; omega
theorem befP_irr {x : S34} (h : befP x x) : False := by unfold befP at h; omega
theorem befP_ne {x y : S34} (h : befP x y) : x ≠ y := fun e => by rw [e] at h; exact befP_irr h
theorem S34_ext {x y : S34} (h0 : x.f0 = y.f0) (h1 : x.f1 = y.f1) : x = y := by cases x; cases y; simp_all
theorem befP_tri (x y : S34) : x = y ∨ befP x y ∨ befP y x := by
  by_cases h : x.f0 = y.f0
  · by_cases k : x.f1 = y.f1
    · exact .inl (S34_ext h k)
    · unfold befP; omega
  · unfold befP; omega
theorem adrA_way {a b : Int} : ∀ n : Nat, n ≤ 32 → 0 ≤ a → a < 4294967296 → 0 ≤ b → b < 4294967296 → wayA a n = wayA b n → adrA a n = adrA b n := by
  intro n
  induction n with
  | zero => intro _ a0 a1 b0 b1 _; rw [adrA_zero a a0 a1, adrA_zero b b0 b1]
  | succ n ih =>
    intro hn a0 a1 b0 b1 h
    have h2 := List.append_inj' (show wayA a n ++ [bitB a n] = wayA b n ++ [bitB b n] from h) rfl
    have h3 : bitB a n = bitB b n := by simpa using h2.2
    rw [adrA_step a n (by omega), adrA_step b n (by omega), h3, ih (by omega) a0 a1 b0 b1 h2.1]
theorem okP_bits {x : S34} (h : okP x) : 0 ≤ x.f1 ∧ x.f1 ≤ 32 := by
  have := (mayB_iff _ _).1 h.2; exact ⟨this.1, this.2.1⟩
theorem okP_adr {x : S34} (h : okP x) : adrA x.f0 x.f1.toNat = x.f0 := by
  obtain ⟨b0, b1, b2⟩ := (mayB_iff _ _).1 h.2
  unfold adrA
  unfold un at b2
  rw [show 32 - x.f1.toNat = (32 - x.f1).toNat by omega, b2]; omega
theorem wayP_inj {x y : S34} (hx : okP x) (hy : okP y) (h : wayP x = wayP y) : x = y := by
  have hl := congrArg List.length h
  unfold wayP at hl
  rw [wayA_len, wayA_len] at hl
  have bx := okP_bits hx
  have bY := okP_bits hy
  have e1 : x.f1 = y.f1 := by omega
  refine S34_ext ?_ e1
  unfold wayP at h
  rw [← okP_adr hx, ← okP_adr hy, ← hl]
  rw [← hl] at h
  exact adrA_way _ (by omega) hx.1.1 (by have := hx.1.2; omega) hy.1.1 (by have := hy.1.2; omega) h
instance : DecidableEq S34 := fun x y => if h : x.f0 = y.f0 ∧ x.f1 = y.f1 then isTrue (S34_ext h.1 h.2) else isFalse (fun e => h (by rw [e]; exact ⟨rfl, rfl⟩))
instance (x y : S34) : Decidable (befP x y) := by unfold befP; infer_instance
/-- what At tells -/
def atL (p : S34) : List S43 → Nat × Bool
  | [] => (0, false)
  | x :: r => if x.f0 = p then (0, true) else if befP p x.f0 then (0, false) else ((atL p r).1 + 1, (atL p r).2)
theorem atL_spec (p : S34) : ∀ l : List S43, l.Pairwise bef → ∃ u t : List S43, (atL p l).1 = u.length ∧ (∀ y ∈ u, befP y.f0 p) ∧ (∀ y ∈ t, befP p y.f0) ∧
    (((atL p l).2 = true ∧ ∃ x, x.f0 = p ∧ l = u ++ x :: t) ∨ ((atL p l).2 = false ∧ l = u ++ t)) := by
  intro l
  induction l with
  | nil => intro _; exact ⟨[], [], rfl, by simp, by simp, .inr ⟨rfl, rfl⟩⟩
  | cons x r ih =>
    intro hs
    obtain ⟨hx, hr⟩ := List.pairwise_cons.1 hs
    by_cases e : x.f0 = p
    · refine ⟨[], r, by simp [atL, e], by simp, fun y hy => ?_, .inl ⟨by simp [atL, e], x, e, rfl⟩⟩
      have := hx y hy; unfold bef at this; rw [e] at this; exact this
    · by_cases b : befP p x.f0
      · refine ⟨[], x :: r, by simp [atL, e, b], by simp, fun y hy => ?_, .inr ⟨by simp [atL, e, b], rfl⟩⟩
        rcases List.mem_cons.1 hy with rfl | hy
        · exact b
        · exact befP_trans b (hx y hy)
      · obtain ⟨u, t, h1, h2, h3, h4⟩ := ih hr
        have hxp : befP x.f0 p := by rcases befP_tri x.f0 p with h | h | h; exact absurd h e; exact h; exact absurd h b
        have e1 : (atL p (x :: r)).1 = (atL p r).1 + 1 := by simp [atL, e, b]
        have e2 : (atL p (x :: r)).2 = (atL p r).2 := by simp [atL, e, b]
        refine ⟨x :: u, t, by rw [e1, h1]; rfl, fun y hy => ?_, h3, ?_⟩
        · rcases List.mem_cons.1 hy with rfl | hy
          · exact hxp
          · exact h2 y hy
        · rw [e2]
          rcases h4 with ⟨k1, x', k2, k3⟩ | ⟨k1, k2⟩
          · exact .inl ⟨k1, x', k2, by rw [k3]; rfl⟩
          · exact .inr ⟨k1, by rw [k2]; rfl⟩
theorem before_is (a b c d : Int) : whirligigref01_Before.f a b c d = some (decide (befP ⟨a, b⟩ ⟨c, d⟩)) := by
  unfold whirligigref01_Before.f befP
  split
  · rename_i h; subst h; simp
  · rename_i h; simp [h]
theorem at_loop (l : List S43) (a b : Int) (hl : l.length ≤ 1000000) : ∀ (r : List S43) (i : Nat), l.drop i = r → i ≤ l.length → Evt (fun k => whirligigref06_At.l0 k l i a b) (((i + (atL ⟨a, b⟩ r).1 : Nat) : Int), (atL ⟨a, b⟩ r).2) := by
  intro r
  induction r with
  | nil =>
    intro i h hi
    have : l.length ≤ i := List.drop_eq_nil_iff.1 h
    refine Evt.step ?_
    simp only [whirligigref06_At.l0]
    refine Evt.ite_neg (by omega) ?_
    simp only [atL]
    have e : ((l.length : Nat) : Int) = ((i + 0 : Nat) : Int) := by omega
    rw [e]; exact Evt.pure _
  | cons x r ih =>
    intro i h hi
    have hlt : i < l.length := by
      rcases Nat.lt_or_ge i l.length with h1 | h1
      · exact h1
      · rw [List.drop_eq_nil_of_le h1] at h; cases h
    have hx : l[i]? = some x := by
      have := List.drop_eq_getElem_cons hlt
      rw [this] at h; injection h with h1 _; rw [List.getElem?_eq_getElem hlt, h1]
    have hr : l.drop (i + 1) = r := by
      have := List.drop_eq_getElem_cons hlt
      rw [this] at h; injection h
    have hrd : rd_T43 l (i : Int) = x := by unfold rd_T43; rw [Int.toNat_natCast, List.getD_eq_getElem?_getD, hx]; rfl
    refine Evt.step ?_
    simp only [whirligigref06_At.l0]
    refine Evt.ite_pos (by omega) (Evt.ite_pos (by omega) ?_)
    rw [hrd]
    by_cases e : x.f0 = ⟨a, b⟩
    · have e0 : x.f0.f0 = a := by rw [e]
      have e1 : x.f0.f1 = b := by rw [e]
      refine Evt.ite_pos (by simp [e0, e1]) ?_
      simp only [atL, if_pos e]
      exact Evt.pure _
    · refine Evt.ite_neg (fun hh => e (by
        simp only [Bool.and_eq_true, beq_iff_eq] at hh
        exact S34_ext hh.1 hh.2)) ?_
      refine Evt.bindc (before_is _ _ _ _) ?_
      by_cases c : befP ⟨a, b⟩ x.f0
      · refine Evt.ite_pos (by simpa using c) ?_
        simp only [atL, if_neg e, if_pos c]
        exact Evt.pure _
      · refine Evt.ite_neg (by simpa using c) ?_
        have hw : wrap64 ((i : Int) + 1) = ((i + 1 : Nat) : Int) := by rw [wrap64_in _ (by omega) (by omega)]; omega
        rw [hw]
        have := ih (i + 1) hr (by omega)
        simp only [atL, if_neg e, if_neg c]
        rw [show i + ((atL ⟨a, b⟩ r).1 + 1) = i + 1 + (atL ⟨a, b⟩ r).1 by omega]
        exact this
theorem at_ev (l : List S43) (a b : Int) (hl : l.length ≤ 1000000) : Evt (fun k => whirligigref06_At.f k l a b) (((atL ⟨a, b⟩ l).1 : Int), (atL ⟨a, b⟩ l).2) := by
  have := at_loop l a b hl l 0 rfl (by omega)
  rw [Nat.zero_add] at this
  exact this
theorem rel_nil : Rel (fun _ => none) [] := ⟨List.Pairwise.nil, fun _ h => (by simp at h), fun _ _ h => (by cases h)⟩
theorem put_ev (l : List S43) (a b v : Int) (hl : l.length ≤ 1000) {u t : List S43} (h1 : (atL ⟨a, b⟩ l).1 = u.length)
    (h4 : ((atL ⟨a, b⟩ l).2 = true ∧ ∃ x : S43, x.f0 = ⟨a, b⟩ ∧ l = u ++ x :: t) ∨ ((atL ⟨a, b⟩ l).2 = false ∧ l = u ++ t)) :
    Evt (fun k => whirligigref06_Put.f k l a b v) (u ++ [⟨⟨a, b⟩, v⟩] ++ t, (atL ⟨a, b⟩ l).2) := by
  unfold whirligigref06_Put.f
  refine Evt.bind (at_ev l a b (by omega)) ?_
  have hul : u.length ≤ l.length := by
    rcases h4 with ⟨_, x, _, h⟩ | ⟨_, h⟩ <;> rw [h] <;> simp
  have htk : l.take u.length = u := by
    rcases h4 with ⟨_, x, _, h⟩ | ⟨_, h⟩ <;> rw [h, List.take_left]
  refine Evt.ite_pos (by omega) (Evt.ite_pos (by rw [h1]; omega) ?_)
  refine Evt.bindc rfl ?_
  rw [h1, Int.toNat_natCast, htk]
  refine Evt.ite_pos (by simp; omega) (Evt.bindc rfl (Evt.ite_pos (by simp; omega) (Evt.bindc rfl ?_)))
  rcases h4 with ⟨hb, x, hx, h⟩ | ⟨hb, h⟩
  · rw [hb]
    have hw : wrap64 ((u.length : Int) + 1) = ((u.length + 1 : Nat) : Int) := by rw [wrap64_in _ (by omega) (by omega)]; omega
    have hd : l.drop (u.length + 1) = t := by
      rw [h, ← List.drop_drop]; simp
    have hlt : u.length + 1 ≤ l.length := by rw [h]; simp
    have hlt2 : t.length ≤ l.length := by rw [h]; simp; omega
    refine Evt.ite_pos rfl (Evt.ite_pos (by rw [hw]; omega) (Evt.ite_pos (by rw [hw]; omega) (Evt.bindc rfl ?_)))
    rw [hw, Int.toNat_natCast, hd]
    refine Evt.ite_pos (by simp; omega) ?_
    rw [List.nil_append]
    exact Evt.pure _
  · rw [hb]
    have hd : l.drop u.length = t := by rw [h]; simp
    have hlt2 : t.length ≤ l.length := by rw [h]; simp
    refine Evt.ite_neg (by simp) (Evt.bindc rfl ?_)
    rw [hd]
    refine Evt.ite_pos (by simp; omega) ?_
    rw [List.nil_append]
    exact Evt.pure _
theorem drop_ev (l : List S43) (a b : Int) (hl : l.length ≤ 1000) {u t : List S43} (h1 : (atL ⟨a, b⟩ l).1 = u.length)
    (h4 : ((atL ⟨a, b⟩ l).2 = true ∧ ∃ x : S43, x.f0 = ⟨a, b⟩ ∧ l = u ++ x :: t) ∨ ((atL ⟨a, b⟩ l).2 = false ∧ l = u ++ t)) :
    Evt (fun k => whirligigref06_Drop.f k l a b) (u ++ t, (atL ⟨a, b⟩ l).2) := by
  unfold whirligigref06_Drop.f
  refine Evt.bind (at_ev l a b (by omega)) ?_
  rcases h4 with ⟨hb, x, hx, h⟩ | ⟨hb, h⟩
  · have hul : u.length ≤ l.length := by rw [h]; simp
    have htk : l.take u.length = u := by rw [h, List.take_left]
    rw [hb]
    have hw : wrap64 ((u.length : Int) + 1) = ((u.length + 1 : Nat) : Int) := by rw [wrap64_in _ (by omega) (by omega)]; omega
    have hd : l.drop (u.length + 1) = t := by
      rw [h, ← List.drop_drop]; simp
    have hlt : u.length + 1 ≤ l.length := by rw [h]; simp
    have hlt2 : t.length ≤ l.length := by rw [h]; simp; omega
    refine Evt.ite_pos rfl (Evt.ite_pos (by omega) (Evt.ite_pos (by rw [h1]; omega) (Evt.bindc rfl ?_)))
    rw [h1, Int.toNat_natCast, htk]
    refine Evt.ite_pos (by simp; omega) (Evt.bindc rfl ?_)
    refine Evt.ite_pos (by rw [hw]; omega) (Evt.ite_pos (by rw [hw]; omega) (Evt.bindc rfl ?_))
    rw [hw, Int.toNat_natCast, hd]
    refine Evt.ite_pos (by simp; omega) ?_
    rw [List.nil_append]
    exact Evt.pure _
  · rw [hb, h]
    exact Evt.ite_neg (by simp) (Evt.pure _)
section
variable {m : Way → Option Int} {l u t : List S43} {p : S34}
theorem at_mem (hR : Rel m l) (hp : okP p) (h2 : ∀ y ∈ u, befP y.f0 p) (h3 : ∀ y ∈ t, befP p y.f0)
    (h4 : ((atL p l).2 = true ∧ ∃ x : S43, x.f0 = p ∧ l = u ++ x :: t) ∨ ((atL p l).2 = false ∧ l = u ++ t)) : (m (wayP p)).isSome = (atL p l).2 := by
  rcases h4 with ⟨hb, x, hx, h⟩ | ⟨hb, h⟩
  · rw [hb]
    have := (hR.ok x (by rw [h]; simp)).2
    rw [hx] at this
    rw [this]; rfl
  · rw [hb]
    cases hm : m (wayP p) with
    | none => rfl
    | some v =>
      obtain ⟨y, hy, hw⟩ := hR.all _ _ hm
      have e := wayP_inj (hR.ok y hy).1 hp hw
      rw [h] at hy
      rcases List.mem_append.1 hy with hy | hy
      · exact absurd e (befP_ne (h2 y hy))
      · exact absurd e.symm (befP_ne (h3 y hy))
theorem rest_rel (hR : Rel m l) (hp : okP p) (h2 : ∀ y ∈ u, befP y.f0 p) (h3 : ∀ y ∈ t, befP p y.f0)
    (h4 : ((atL p l).2 = true ∧ ∃ x : S43, x.f0 = p ∧ l = u ++ x :: t) ∨ ((atL p l).2 = false ∧ l = u ++ t)) :
    (u ++ t).Pairwise bef ∧ (∀ x ∈ u ++ t, okP x.f0 ∧ x.f0 ≠ p ∧ m (wayP x.f0) = some x.f1) ∧ ∀ π v, π ≠ wayP p → m π = some v → ∃ x ∈ u ++ t, wayP x.f0 = π := by
  have hsub : (u ++ t).Sublist l := by
    rcases h4 with ⟨_, x, _, h⟩ | ⟨_, h⟩ <;> rw [h]
    · exact List.Sublist.append (List.Sublist.refl _) (List.sublist_cons_self _ _)
    · exact List.Sublist.refl _
  refine ⟨hR.srt.sublist hsub, fun x hx => ⟨(hR.ok x (hsub.subset hx)).1, ?_, (hR.ok x (hsub.subset hx)).2⟩, fun π v hne hm => ?_⟩
  · rcases List.mem_append.1 hx with hx | hx
    · exact befP_ne (h2 x hx)
    · exact (befP_ne (h3 x hx)).symm
  · obtain ⟨x, hx, hw⟩ := hR.all π v hm
    refine ⟨x, ?_, hw⟩
    rcases h4 with ⟨_, y, hy, h⟩ | ⟨_, h⟩ <;> rw [h] at hx
    · rcases List.mem_append.1 hx with hx | hx
      · exact List.mem_append_left _ hx
      · rcases List.mem_cons.1 hx with rfl | hx
        · rw [hy] at hw; exact absurd hw.symm hne
        · exact List.mem_append_right _ hx
    · exact hx
theorem rel_put (hR : Rel m l) (hp : okP p) (v : Int) (h2 : ∀ y ∈ u, befP y.f0 p) (h3 : ∀ y ∈ t, befP p y.f0)
    (h4 : ((atL p l).2 = true ∧ ∃ x : S43, x.f0 = p ∧ l = u ++ x :: t) ∨ ((atL p l).2 = false ∧ l = u ++ t)) : Rel (putM m (wayP p) (some v)) (u ++ [⟨p, v⟩] ++ t) := by
  obtain ⟨k1, k2, k3⟩ := rest_rel hR hp h2 h3 h4
  obtain ⟨s1, s2, s3⟩ := List.pairwise_append.1 k1
  refine ⟨?_, fun x hx => ?_, fun π w hm => ?_⟩
  · rw [List.append_assoc]
    refine List.pairwise_append.2 ⟨s1, ?_, fun x hx y hy => ?_⟩
    · exact List.pairwise_cons.2 ⟨fun y hy => h3 y hy, s2⟩
    · rcases List.mem_cons.1 hy with rfl | hy
      · exact h2 x hx
      · exact s3 x hx y hy
  · rw [List.append_assoc] at hx
    have hcase : x = ⟨p, v⟩ ∨ x ∈ u ++ t := by
      rcases List.mem_append.1 hx with hx | hx
      · exact .inr (List.mem_append_left _ hx)
      · rcases List.mem_cons.1 hx with rfl | hx
        · exact .inl rfl
        · exact .inr (List.mem_append_right _ hx)
    rcases hcase with rfl | hx
    · exact ⟨hp, putM_self _ _ _⟩
    · obtain ⟨g1, g2, g3⟩ := k2 x hx
      exact ⟨g1, by rw [putM_ne (fun e => g2 (wayP_inj g1 hp e))]; exact g3⟩
  · by_cases e : π = wayP p
    · exact ⟨⟨p, v⟩, by simp, e.symm⟩
    · rw [putM_ne e] at hm
      obtain ⟨x, hx, hw⟩ := k3 π w e hm
      refine ⟨x, ?_, hw⟩
      rcases List.mem_append.1 hx with hx | hx
      · simp [hx]
      · simp [hx]
theorem rel_drop (hR : Rel m l) (hp : okP p) (h2 : ∀ y ∈ u, befP y.f0 p) (h3 : ∀ y ∈ t, befP p y.f0)
    (h4 : ((atL p l).2 = true ∧ ∃ x : S43, x.f0 = p ∧ l = u ++ x :: t) ∨ ((atL p l).2 = false ∧ l = u ++ t)) : Rel (putM m (wayP p) none) (u ++ t) := by
  obtain ⟨k1, k2, k3⟩ := rest_rel hR hp h2 h3 h4
  refine ⟨k1, fun x hx => ?_, fun π w hm => ?_⟩
  · obtain ⟨g1, g2, g3⟩ := k2 x hx
    exact ⟨g1, by rw [putM_ne (fun e => g2 (wayP_inj g1 hp e))]; exact g3⟩
  · by_cases e : π = wayP p
    · rw [e, putM_self] at hm; cases hm
    · rw [putM_ne e] at hm
      exact k3 π w e hm
end
end Go.Proofs.Ytnihacajjpcjeaa

end
section
namespace Go.Proofs.Ytnihacajjpcjeaa
open Go.RowKit Go.Proofs.Ytnihacajjpcjeaa.P Go.Proofs.YtnihacajjpcjeaaW.PrintWords Go.Proofs.YtnihacajjpcjeaaW.PrintLast Go.Proofs.YtnihacajjpcjeaaW.PrintMore
set_option linter.unusedVariables false
set_option linter.unusedSimpArgs false

/-- the number of a way's bits -/
def numW (π : Way) : Nat := π.foldl (fun h b => 2 * h + b.toNat) 0
/-- the address of a way -/
def adrW (π : Way) : Int := (numW π : Int) * 2 ^ (32 - π.length)
def prefW (π : Way) : S34 := ⟨adrW π, (π.length : Int)⟩
theorem numW_snoc (π : Way) (b : Bool) : numW (π ++ [b]) = 2 * numW π + b.toNat := by simp [numW, List.foldl_append]
theorem adrW_snoc (π : Way) (b : Bool) (h : π.length < 32) : adrW (π ++ [b]) = adrW π + (b.toNat : Int) * 2 ^ (31 - π.length) := by
  unfold adrW
  rw [numW_snoc, List.length_append, List.length_singleton, show 32 - (π.length + 1) = 31 - π.length by omega, two_pow_step π.length h]
  push_cast
  rw [Int.add_mul, Int.mul_comm 2 (numW π : Int), Int.mul_assoc]
theorem numW_lt (π : Way) : numW π < 2 ^ π.length := by
  have : ∀ (ρ : Way) (h : Nat), ρ.foldl (fun h b => 2 * h + b.toNat) h < (h + 1) * 2 ^ ρ.length := by
    intro ρ
    induction ρ with
    | nil => intro h; simp
    | cons b ρ ih =>
      intro h
      simp only [List.foldl_cons, List.length_cons]
      refine Nat.lt_of_lt_of_le (ih _) ?_
      rw [Nat.pow_succ, Nat.mul_comm (2 ^ ρ.length) 2, ← Nat.mul_assoc]
      exact Nat.mul_le_mul_right _ (by cases b <;> simp <;> omega)
  have h := this π 0
  rw [Nat.zero_add, Nat.one_mul] at h
  exact h
/-- the way of an address cut -/
theorem adrW_way (a : Int) (h0 : 0 ≤ a) (h1 : a < 4294967296) : ∀ n : Nat, n ≤ 32 → adrW (wayA a n) = adrA a n := by
  intro n
  induction n with
  | zero => intro _; rw [adrA_zero a h0 h1]; simp [adrW, wayA, numW]
  | succ n ih =>
    intro hn
    rw [wayA, adrW_snoc _ _ (by rw [wayA_len]; omega), ih (by omega), adrA_step a n (by omega), wayA_len]
/-- all that lies below a way, d bits deep at most, in the walk's order -/
def enumW (m : Way → Option Int) : Nat → Way → List S43
  | 0, _ => []
  | d + 1, π => (match m π with | some v => [⟨prefW π, v⟩] | none => []) ++ (enumW m d (π ++ [false]) ++ enumW m d (π ++ [true]))
theorem adrW_kid (π : Way) (b : Bool) (h : π.length < 32) : adrW π ≤ adrW (π ++ [b]) ∧ adrW (π ++ [b]) + 2 ^ (31 - π.length) ≤ adrW π + 2 ^ (32 - π.length) := by
  rw [adrW_snoc π b h, two_pow_step π.length h]
  have hp : (0 : Int) < 2 ^ (31 - π.length) := Int.pow_pos (by decide)
  cases b <;> simp <;> omega
theorem enum_in (m : Way → Option Int) : ∀ (d : Nat) (π : Way), π.length + d ≤ 33 → ∀ x ∈ enumW m d π, adrW π ≤ x.f0.f0 ∧ x.f0.f0 < adrW π + 2 ^ (32 - π.length) ∧ (π.length : Int) ≤ x.f0.f1 := by
  intro d
  induction d with
  | zero => intro π _ x hx; simp [enumW] at hx
  | succ d ih =>
    intro π hπ x hx
    have hp : (0 : Int) < 2 ^ (32 - π.length) := Int.pow_pos (by decide)
    simp only [enumW] at hx
    rcases List.mem_append.1 hx with hx | hx
    · cases hm : m π with
      | none => rw [hm] at hx; simp at hx
      | some v =>
        rw [hm] at hx
        simp only [List.mem_singleton] at hx
        subst hx
        exact ⟨Int.le_refl _, by show adrW π < _; omega, Int.le_refl _⟩
    · have key : ∀ b, x ∈ enumW m d (π ++ [b]) → adrW π ≤ x.f0.f0 ∧ x.f0.f0 < adrW π + 2 ^ (32 - π.length) ∧ (π.length : Int) ≤ x.f0.f1 := fun b hb => by
        cases d with
        | zero => simp [enumW] at hb
        | succ d =>
          obtain ⟨h1, h2, h3⟩ := ih (π ++ [b]) (by rw [List.length_append]; simp; omega) x hb
          obtain ⟨k1, k2⟩ := adrW_kid π b (by omega)
          rw [List.length_append] at h2 h3
          simp only [List.length_singleton] at h2 h3
          rw [show 32 - (π.length + 1) = 31 - π.length by omega] at h2
          exact ⟨by omega, by omega, by omega⟩
      rcases List.mem_append.1 hx with hx | hx
      · exact key false hx
      · exact key true hx
theorem enum_sorted (m : Way → Option Int) : ∀ (d : Nat) (π : Way), π.length + d ≤ 33 → (enumW m d π).Pairwise bef := by
  intro d
  induction d with
  | zero => intro π _; exact List.Pairwise.nil
  | succ d ih =>
    intro π hπ
    have hL : ∀ b, π.length + d ≤ 32 → (enumW m d (π ++ [b])).Pairwise bef := fun b h => ih _ (by rw [List.length_append]; simp; omega)
    simp only [enumW]
    refine List.pairwise_append.2 ⟨?_, List.pairwise_append.2 ⟨hL false (by omega), hL true (by omega), fun x hx y hy => ?_⟩, fun x hx y hy => ?_⟩
    · cases m π with
      | none => exact List.Pairwise.nil
      | some v => exact List.pairwise_singleton _ _
    · cases d with
      | zero => simp [enumW] at hx
      | succ d =>
        obtain ⟨h1, h2, h3⟩ := enum_in m (d + 1) _ (by rw [List.length_append]; simp; omega) x hx
        obtain ⟨k1, k2, k3⟩ := enum_in m (d + 1) _ (by rw [List.length_append]; simp; omega) y hy
        rw [List.length_append] at h2
        simp only [List.length_singleton] at h2
        rw [show 32 - (π.length + 1) = 31 - π.length by omega] at h2
        rw [adrW_snoc π true (by omega)] at k1
        rw [adrW_snoc π false (by omega)] at h2
        simp at k1 h2
        exact .inl (by show x.f0.f0 < y.f0.f0; omega)
    · cases hm : m π with
      | none => rw [hm] at hx; simp at hx
      | some v =>
        rw [hm] at hx
        simp only [List.mem_singleton] at hx
        subst hx
        have key : ∀ b, y ∈ enumW m d (π ++ [b]) → bef ⟨prefW π, v⟩ y := fun b hb => by
          cases d with
          | zero => simp [enumW] at hb
          | succ d =>
            obtain ⟨h1, h2, h3⟩ := enum_in m (d + 1) _ (by rw [List.length_append]; simp; omega) y hb
            obtain ⟨k1, k2⟩ := adrW_kid π b (by omega)
            rw [List.length_append] at h3
            simp only [List.length_singleton] at h3
            show adrW π < y.f0.f0 ∨ (adrW π = y.f0.f0 ∧ (π.length : Int) < y.f0.f1)
            push_cast at h3
            omega
        rcases List.mem_append.1 hy with hy | hy
        · exact key false hy
        · exact key true hy
theorem enum_mem (m : Way → Option Int) : ∀ (d : Nat) (π : Way) (x : S43), x ∈ enumW m d π ↔ ∃ ρ : Way, ρ.length < d ∧ m (π ++ ρ) = some x.f1 ∧ x.f0 = prefW (π ++ ρ) := by
  intro d
  induction d with
  | zero => intro π x; simp [enumW]
  | succ d ih =>
    intro π x
    simp only [enumW]
    constructor
    · intro hx
      rcases List.mem_append.1 hx with hx | hx
      · cases hm : m π with
        | none => rw [hm] at hx; simp at hx
        | some v =>
          rw [hm] at hx
          simp only [List.mem_singleton] at hx
          subst hx
          exact ⟨[], by simp, by simpa using hm, by simp⟩
      · have key : ∀ b, x ∈ enumW m d (π ++ [b]) → ∃ ρ : Way, ρ.length < d + 1 ∧ m (π ++ ρ) = some x.f1 ∧ x.f0 = prefW (π ++ ρ) := fun b hb => by
          obtain ⟨ρ, h1, h2, h3⟩ := (ih _ x).1 hb
          exact ⟨b :: ρ, by simp; omega, by simpa using h2, by simpa using h3⟩
        rcases List.mem_append.1 hx with hx | hx
        · exact key false hx
        · exact key true hx
    · rintro ⟨ρ, h1, h2, h3⟩
      cases ρ with
      | nil =>
        refine List.mem_append_left _ ?_
        rw [List.append_nil] at h2 h3
        rw [h2]
        simp only [List.mem_singleton]
        cases x; simp_all
      | cons b ρ =>
        refine List.mem_append_right _ ?_
        have hk : x ∈ enumW m d (π ++ [b]) := (ih _ x).2 ⟨ρ, by simp at h1; omega, by simpa using h2, by simpa using h3⟩
        cases b
        · exact List.mem_append_left _ hk
        · exact List.mem_append_right _ hk
theorem okP_pref {x : S34} (h : okP x) : prefW (wayP x) = x := by
  have hb := okP_bits h
  refine S34_ext ?_ ?_
  · show adrW (wayA x.f0 x.f1.toNat) = x.f0
    rw [adrW_way x.f0 h.1.1 (by have := h.1.2; omega) _ (by omega), okP_adr h]
  · show ((wayP x).length : Int) = x.f1
    unfold wayP
    rw [wayA_len]; omega
theorem sorted_eq : ∀ (a b : List S43), a.Pairwise bef → b.Pairwise bef → (∀ x, x ∈ a ↔ x ∈ b) → a = b := by
  intro a
  induction a with
  | nil =>
    intro b _ _ h
    cases b with
    | nil => rfl
    | cons y b => exact absurd ((h y).2 List.mem_cons_self) (by simp)
  | cons x a ih =>
    intro b ha hb h
    cases b with
    | nil => exact absurd ((h x).1 List.mem_cons_self) (by simp)
    | cons y b =>
      obtain ⟨a1, a2⟩ := List.pairwise_cons.1 ha
      obtain ⟨b1, b2⟩ := List.pairwise_cons.1 hb
      have hxy : x = y := by
        rcases List.mem_cons.1 ((h x).1 List.mem_cons_self) with e | hx
        · exact e
        · rcases List.mem_cons.1 ((h y).2 List.mem_cons_self) with e | hy
          · exact e.symm
          · exact absurd (befP_trans (b1 x hx) (a1 y hy)) (fun k => befP_irr k)
      subst hxy
      congr 1
      refine ih b a2 b2 (fun z => ⟨fun hz => ?_, fun hz => ?_⟩)
      · rcases List.mem_cons.1 ((h z).1 (List.mem_cons_of_mem _ hz)) with e | hz2
        · subst e; exact absurd (a1 z hz) (fun k => befP_irr k)
        · exact hz2
      · rcases List.mem_cons.1 ((h z).2 (List.mem_cons_of_mem _ hz)) with e | hz2
        · subst e; exact absurd (b1 z hz) (fun k => befP_irr k)
        · exact hz2
/-- a trie's values in the walk's order are the plain list -/
theorem enum_rel {m : Way → Option Int} {l : List S43} (hR : Rel m l) : enumW m 33 [] = l := by
  refine sorted_eq _ _ (enum_sorted m 33 [] (by simp)) hR.srt (fun x => ?_)
  rw [enum_mem]
  constructor
  · rintro ⟨ρ, _, h2, h3⟩
    rw [List.nil_append] at h2 h3
    obtain ⟨y, hy, hw⟩ := hR.all ρ _ h2
    have e1 := okP_pref (hR.ok y hy).1
    have e2 := (hR.ok y hy).2
    rw [hw] at e1 e2
    rw [h2] at e2
    have : x = y := by
      cases x; cases y
      simp only at h3 e1 e2
      simp_all
    rw [this]; exact hy
  · intro hx
    have hb := okP_bits (hR.ok x hx).1
    refine ⟨wayP x.f0, by unfold wayP; rw [wayA_len]; omega, by rw [List.nil_append]; exact (hR.ok x hx).2, by rw [List.nil_append]; exact (okP_pref (hR.ok x hx).1).symm⟩
end Go.Proofs.Ytnihacajjpcjeaa

end
section
namespace Go.Proofs.Ytnihacajjpcjeaa
open Go.RowKit Go.Proofs.Ytnihacajjpcjeaa.P Go.Proofs.YtnihacajjpcjeaaW.PrintWords Go.Proofs.YtnihacajjpcjeaaW.PrintLast Go.Proofs.YtnihacajjpcjeaaW.PrintMore
set_option linter.unusedVariables false
set_option linter.unusedSimpArgs false

theorem info73 : (Try.prog.info? 73).map (fun i => (i.zero, i.size, i.bytes)) = some (some (.pointer none), 1, 8) := by kernel_rfl
theorem cells73 : Try.prog.cellsOf 73 = 1 := by kernel_rfl
theorem eq73 (w : World) (d : Nat) (x : Option Addr) : (Op.equalIn (d + 1) 73 (.pointer x) (.pointer none)).run Try.prog w = .ok x.isNone w := by
  cases x <;> simp [Op.equalIn]
theorem eq82 (w : World) (p q : Option Addr) : (Op.equalIn 10000 82 (.agg #[.pointer p, .pointer q]) (.agg #[.pointer none, .pointer none])).run Try.prog w = .ok (p.isNone && q.isNone) w := by
  obtain ⟨i, hi, _, _, _⟩ := info_parts info73
  rw [show (10000 : Nat) = 9999 + 1 from rfl, run_equalIn_array w 9999 _ _ Try.underlying82 hi, cells73]
  have e := eq73 w 9998
  cases p <;> cases q <;> (simp [Op.eqItems, List.range, List.range.loop]; try go_simp) <;> simp [e]
theorem ptrT_ptr (D : Way → Bool) (blk : Way → Nat) (π : Way) : ∃ u, ptrT D blk π = .pointer u := by
  unfold ptrT; split <;> exact ⟨_, rfl⟩
theorem TrieAt.drew {V : Type} {K : TK V} {w : World} {bt : Nat} {n : Int} {D : Way → Bool} {m : Way → Option V} {blk : Way → Nat} (h : TrieAt K w bt n D m blk) : TrieAt K w.drew bt n D m blk := ⟨⟨h.nodes.lies, h.nodes.inj, h.nodes.up, h.nodes.sup⟩, h.root, h.ne⟩
set_option maxHeartbeats 8000000 in
set_option maxRecDepth 100000 in
theorem prune_calls (bt : Nat) (own : Nat → Prop) (n : Int) (m : Way → Option Int) (blk : Way → Nat) (a : Int) (N : Nat) (h0 : 0 ≤ a) (h1 : a < 4294967296) (b1 : N ≤ 32) (hob : own bt) :
    ∀ (d i : Nat), i + d = N → ∀ (w : World) (D : Way → Bool), TrieAt kI w bt n D m blk → D (wayA a N) = true → (∀ π, D π = true → own (blk π)) → (∀ b, own b → b < w.heap.size) → (∀ π, D π = true → (∃ ρ, (m (π ++ ρ)).isSome = true) ∨ ∃ j, j ≤ N ∧ π = wayA a j) →
    Calls Try.prog 43 #[.pointer (some ⟨blk (wayA a i), 0, none⟩), .agg #[.int .u32 a, .int .i64 N], .int .i64 i] w fun e w' => ∃ D' : Way → Bool, e = .returned (ptrT D' blk (wayA a i)) ∧ TrieBut kI w' bt n D' m blk (wayA a i) (ptrT D blk (wayA a i)) ∧ (∀ π, D' π = true → D π = true) ∧ (∀ π, D' π = true → (∃ ρ, (m (π ++ ρ)).isSome = true) ∨ ∃ j, j < i ∧ π = wayA a j) ∧ (∀ j, j < i → D' (wayA a j) = true) ∧ Kb own w w' := by
  intro d
  induction d with
  | zero =>
    intro i hi w D hT hN hO hS hG
    have HD : Hid (∀ j, j ≤ N → D (wayA a j) = true) := fun j hj => by
      obtain ⟨ρ, hρ⟩ := wayA_split a hj
      rw [hρ] at hN; exact hT.nodes.ups ρ _ hN
    have c1 : decide ((i : Int) < (N : Int)) = false := decide_eq_false (by omega)
    go_enter Try.func43, Try.ntmps43
    go_upto_region 4 with fail
    all_goals
      have HB0 : Hid (Below w.heap.size w (w.alloc (.cells #[.int .u32 a, .int .i64 N] 34))) := Below.alloc (Below.refl _ w) (Nat.le_refl _) _
      obtain ⟨W2, hW2⟩ : ∃ W2, W2 = w.alloc (.cells #[.int .u32 a, .int .i64 N] 34) := ⟨_, rfl⟩
      have HT2 : Hid (TrieAt kI W2 bt n D m blk) := by rw [hW2]; exact hT.below HB0.out
      have K5 : Hid (Kb own w W2) := by rw [hW2]; exact Kb.of_below HB0.out
      obtain ⟨D1, hD1⟩ : ∃ D1, D1 = D := ⟨_, rfl⟩
      have K2 : Hid (∀ π, D1 π = true → D π = true) := by rw [hD1]; exact fun _ h => h
      have K3 : Hid (∀ π, D1 π = true → (∃ ρ, (m (π ++ ρ)).isSome = true) ∨ ∃ j, j < i + 1 ∧ π = wayA a j) := fun π hp => by
        rw [hD1] at hp
        rcases hG π hp with h | ⟨j, hj, e⟩
        · exact .inl h
        · exact .inr ⟨j, by omega, e⟩
      have K4 : Hid (∀ j, j < i + 1 → D1 (wayA a j) = true) := fun j hj => by rw [hD1]; exact HD.out j (by omega)
      have hDx := K4.out i (by omega)
      rw [← hD1] at HT2
      rw [← hW2]
      clear hD1 hT hN hO hS hG HB0 hW2
      have hx := HT2.out.nodes.is hDx
      have hk0 : W2.cell? ⟨blk (wayA a i), 0, none⟩ = some (ptrT D1 blk (wayA a i ++ [false])) := HT2.out.nodes.kid hDx false
      have hk1 : W2.cell? ⟨blk (wayA a i), 1, none⟩ = some (ptrT D1 blk (wayA a i ++ [true])) := HT2.out.nodes.kid hDx true
      have hpx : Hid (ptrT D1 blk (wayA a i) = .pointer (some ⟨blk (wayA a i), 0, none⟩)) := ptrT_some hDx
      have hpu : Hid (ptrT D1 blk (wayA a i) = ptrT D blk (wayA a i)) := (ptrT_some hDx).trans (ptrT_some (HD.out i (by omega))).symm
      have hstay : Hid (∀ (hw : (∃ ρ, (m (wayA a i ++ ρ)).isSome = true)), ∃ D' : Way → Bool, .returned (.pointer (some ⟨blk (wayA a i), 0, none⟩)) = Ending.returned (ptrT D' blk (wayA a i)) ∧ TrieBut kI W2 bt n D' m blk (wayA a i) (ptrT D blk (wayA a i)) ∧ (∀ π, D' π = true → D π = true) ∧ (∀ π, D' π = true → (∃ ρ, (m (π ++ ρ)).isSome = true) ∨ ∃ j, j < i ∧ π = wayA a j) ∧ (∀ j, j < i → D' (wayA a j) = true) ∧ Kb own w W2) := fun hw =>
        ⟨D1, by rw [hpx.out], by rw [← hpu.out]; exact HT2.out.but _, K2.out, fun π hp => by
          rcases K3.out π hp with h | ⟨j, hj, rfl⟩
          · exact .inl h
          · by_cases e : j = i
            · subst e; exact .inl hw
            · exact .inr ⟨j, by omega, rfl⟩, fun j hj => K4.out j (by omega), K5.out⟩
      have hkid : Hid (∀ c, D1 (wayA a i ++ [c]) = true → ∃ ρ, (m (wayA a i ++ ρ)).isSome = true) := fun c hc => by
        rcases K3.out _ hc with ⟨ρ, h⟩ | ⟨j, hj, e⟩
        · exact ⟨c :: ρ, by simpa using h⟩
        · have := congrArg List.length e
          simp [wayA_len] at this; omega
      have hgone : Hid (m (wayA a i) = none → (∀ c, D1 (wayA a i ++ [c]) = false) → ∃ D' : Way → Bool, .returned (.pointer none) = Ending.returned (ptrT D' blk (wayA a i)) ∧ TrieBut kI W2 bt n D' m blk (wayA a i) (ptrT D blk (wayA a i)) ∧ (∀ π, D' π = true → D π = true) ∧ (∀ π, D' π = true → (∃ ρ, (m (π ++ ρ)).isSome = true) ∨ ∃ j, j < i ∧ π = wayA a j) ∧ (∀ j, j < i → D' (wayA a j) = true) ∧ Kb own w W2) := fun hm hc => by
        have hcase : ∀ ρ, delD D1 (wayA a i) ρ = true → D1 ρ = true ∧ ρ ≠ wayA a i := fun ρ hp => by unfold delD at hp; simpa using hp
        refine ⟨delD D1 (wayA a i), by rw [ptrT_none (by simp [delD])], by rw [← hpu.out]; exact HT2.out.lop hm hc, fun π hp => K2.out π (hcase π hp).1, fun π hp => ?_, fun j hj => ?_, K5.out⟩
        · rcases K3.out π (hcase π hp).1 with h | ⟨j, hj, rfl⟩
          · exact .inl h
          · by_cases e : j = i
            · subst e; exact absurd rfl (hcase _ hp).2
            · exact .inr ⟨j, by omega, rfl⟩
        · have h1 := K4.out j (by omega)
          have h2 : wayA a j ≠ wayA a i := fun e => by have := congrArg List.length e; simp [wayA_len] at this; omega
          simp [delD, h1, h2]
      clear hpx hpu K2 K3 K4 K5 hDx HT2
      cases hm : m (wayA a i) with
      | some v =>
        rw [hm] at hx
        have hx' : W2.cell? ⟨blk (wayA a i), 2, none⟩ = some (.bool true) := hx
        have hfin := mkHid (hstay.out ⟨[], by rw [List.append_nil, hm]; rfl⟩)
        clear hx hk0 hk1 hstay hkid hgone
        go_wp2_with fail
        go_ret
        exact hfin.out
      | none =>
        rw [hm] at hx
        have hx' : W2.cell? ⟨blk (wayA a i), 2, none⟩ = some (.bool false) := hx
        clear hx
        cases e0 : D1 (wayA a i ++ [false]) with
        | true =>
          rw [ptrT_some e0] at hk0
          have hfin := mkHid (hstay.out (hkid.out _ e0))
          obtain ⟨u1, hu1⟩ := ptrT_ptr D1 blk (wayA a i ++ [true])
          rw [hu1] at hk1
          have heq : (Op.equalIn 10000 82 (.agg #[.pointer (some ⟨blk (wayA a i ++ [false]), 0, none⟩), .pointer u1]) (.agg #[.pointer none, .pointer none])).run Try.prog W2 = .ok false W2 := eq82 W2 _ _
          clear hstay hkid hgone hu1
          go_wp2_with fail
          go_ret
          exact hfin.out
        | false =>
          rw [ptrT_none e0] at hk0
          cases e1 : D1 (wayA a i ++ [true]) with
          | true =>
            rw [ptrT_some e1] at hk1
            have hfin := mkHid (hstay.out (hkid.out _ e1))
            have heq : (Op.equalIn 10000 82 (.agg #[.pointer none, .pointer (some ⟨blk (wayA a i ++ [true]), 0, none⟩)]) (.agg #[.pointer none, .pointer none])).run Try.prog W2 = .ok false W2 := eq82 W2 _ _
            clear hstay hkid hgone
            go_wp2_with fail
            go_ret
            exact hfin.out
          | false =>
            rw [ptrT_none e1] at hk1
            have hfin := mkHid (hgone.out hm (fun c => by cases c <;> assumption))
            have heq : (Op.equalIn 10000 82 (.agg #[.pointer none, .pointer none]) (.agg #[.pointer none, .pointer none])).run Try.prog W2 = .ok true W2 := eq82 W2 _ _
            clear hstay hkid hgone
            go_wp2_with fail
            go_ret
            exact hfin.out
  | succ d ih =>
    intro i hi w D hT hN hO hS hG
    have hD : ∀ j, j ≤ N → D (wayA a j) = true := fun j hj => by
      obtain ⟨ρ, hρ⟩ := wayA_split a hj
      rw [hρ] at hN; exact hT.nodes.ups ρ _ hN
    have HB0 : Hid (Below w.heap.size w (w.alloc (.cells #[.int .u32 a, .int .i64 N] 34))) := Below.alloc (Below.refl _ w) (Nat.le_refl _) _
    have HT0 := mkHid (hT.below HB0.out)
    have c1 : decide ((i : Int) < (N : Int)) = true := decide_eq_true (by omega)
    have hbit : Hid (trie_bit.f a (i : Int) = some ((bitB a i).toNat : Int)) := tbit_ev a i h0 h1 (by omega)
    have hw : IntKind.i64.wrap ((i : Int) + 1) = (i : Int) + 1 := by rw [IntWalk.i64_in _ (by omega)]
    have hlt := hT.nodes.lt (hD i (by omega))
    cases hB : bitB a i with
    | false =>
      rw [hB] at hbit
      have hwi : wayA a (i + 1) = wayA a i ++ [false] := by rw [wayA, hB]
      have hk : (w.alloc (.cells #[.int .u32 a, .int .i64 N] 34)).cell? ⟨blk (wayA a i), 0, none⟩ = some (.pointer (some ⟨blk (wayA a (i + 1)), 0, none⟩)) := by
        have := HT0.out.nodes.kid (hD i (by omega)) false
        rw [← hwi, ptrT_some (hD (i + 1) (by omega))] at this
        exact this
      go_enter Try.func43, Try.ntmps43
      go_wp2_with ((first | (go_at_call 45; (with_reducible refine (trie_bit.calls a i ((false.toNat : Nat) : Int) _ hbit.out).mono ?_); rintro e w' ⟨rfl, ⟨nd, rfl⟩⟩; (try first | exact ⟨rfl, _, World.drewN_drewN _ _ _⟩))))
      obtain ⟨W, hW⟩ : ∃ W, W = (w.alloc (.cells #[.int .u32 a, .int .i64 N] 34)).drewN nd := ⟨_, rfl⟩
      have HTW : Hid (TrieAt kI W bt n D m blk) := by rw [hW]; exact HT0.out.drewN _
      have HBW : Hid (Below w.heap.size w W) := by rw [hW]; exact pw_below_drewN HB0.out _
      have p0 : W.cell? ⟨w.heap.size, 0, none⟩ = some (.int .u32 a) := by rw [hW]; go_simp
      have p1 : W.cell? ⟨w.heap.size, 1, none⟩ = some (.int .i64 N) := by rw [hW]; go_simp
      have hkW : W.cell? ⟨blk (wayA a i), 0, none⟩ = some (.pointer (some ⟨blk (wayA a (i + 1)), 0, none⟩)) := by rw [hW]; exact hk
      rw [← hW]
      clear hW hk HT0 HB0
      have hcall : Hid (Calls Try.prog 43 #[.pointer (some ⟨blk (wayA a (i + 1)), 0, none⟩), .agg #[.int .u32 a, .int .i64 N], .int .i64 ((i : Int) + 1)] W.drew fun e w1 => ∃ u, e = .returned (.pointer u) ∧ w1.cell? ⟨blk (wayA a i), 0, none⟩ = some (.pointer (some ⟨blk (wayA a (i + 1)), 0, none⟩)) ∧ w1.frozen? ⟨blk (wayA a i), 0, none⟩ = false ∧ w1.cell? ⟨w.heap.size, 0, none⟩ = some (.int .u32 a) ∧ w1.cell? ⟨w.heap.size, 1, none⟩ = some (.int .i64 N) ∧
          Hid (∃ D1 : Way → Bool, TrieAt kI (w1.setCell ⟨blk (wayA a i), 0, none⟩ (.pointer u)) bt n D1 m blk ∧ (∀ π, D1 π = true → D π = true) ∧ (∀ π, D1 π = true → (∃ ρ, (m (π ++ ρ)).isSome = true) ∨ ∃ j, j < i + 1 ∧ π = wayA a j) ∧ (∀ j, j < i + 1 → D1 (wayA a j) = true) ∧ Kb own W w1)) := by
        have hs1 : w.heap.size < W.heap.size := World.block_lt_of_cell? _ _ p0
        refine (ih (i + 1) (by omega) W.drew D HTW.out.drew hN hO (fun b hb => Nat.lt_of_lt_of_le (hS b hb) HBW.out.size) hG).mono ?_
        rintro e w1 ⟨D1, rfl, g1, g2, g3, g4, g5⟩
        obtain ⟨u, hu⟩ := ptrT_ptr D1 blk (wayA a (i + 1))
        have hno : ¬ own w.heap.size := fun h => absurd (hS _ h) (by omega)
        have hb1 : w1.heap[w.heap.size]? = W.heap[w.heap.size]? := g5.block _ hs1 hno
        refine ⟨u, by rw [hu], ?_, froz_blk (g1.lies _ (g4 i (by omega))) 0, ?_, ?_, D1, ?_, g2, g3, g4, ⟨g5.os, g5.tape, g5.output, g5.size, g5.block⟩⟩
        · rw [cell_blk (g1.lies _ (g4 i (by omega)))]
          show some (ptrU D1 blk _ _ (wayA a i ++ [false])) = _
          rw [← hwi, ptrU_eq, ptrT_some (hD (i + 1) (by omega))]
        · unfold World.cell? at p0 ⊢; rw [hb1]; exact p0
        · unfold World.cell? at p1 ⊢; rw [hb1]; exact p1
        · rw [← hu]; exact g1.set (.inr ⟨wayA a i, false, hwi, g4 i (by omega), rfl⟩)
      have HO := mkHid hO
      have HD := mkHid hD
      have HG := mkHid hG
      have HS := mkHid hS
      have HWI := mkHid hwi
      have hn : Hid (∀ o, (⟨blk (wayA a i), 0, none⟩ : Addr) ≠ ⟨w.heap.size, o, none⟩) := fun o e => absurd (congrArg Addr.block e) (by show blk (wayA a i) ≠ w.heap.size; omega)
      clear ih hD hO hG hS hN hwi hT
      go_region_with (first | (go_at_call 43; refine hcall.out.mono ?_; rintro e w1 ⟨u, rfl, d0, e0, b0, b1, h2⟩))
      all_goals
        have HT2e := h2.out
        have K6 : Hid (Kb own w W) := Kb.of_below HBW.out
        obtain ⟨W2, hW2⟩ : ∃ W2, W2 = w1.setCell ⟨blk (wayA a i), 0, none⟩ (.pointer u) := ⟨_, rfl⟩
        obtain ⟨D1, t1, t2, t3, t4, t5⟩ := HT2e
        have HT2 : Hid (TrieAt kI W2 bt n D1 m blk) := by rw [hW2]; exact t1
        have K2 := mkHid t2
        have K3 := mkHid t3
        have K4 := mkHid t4
        have hDx := K4.out i (by omega)
        have K5 : Hid (Kb own w W2) := by rw [hW2]; exact (K6.out.trans t5).set _ (.inl (HO.out _ (HD.out i (by omega))))
        rw [← hW2]
        clear hW2 t1 t2 t3 t4 t5 h2 K6 d0 e0 b0 b1 hcall hn HG HS HWI HTW HBW p0 p1 hkW
        have hx := HT2.out.nodes.is hDx
        have hk0 : W2.cell? ⟨blk (wayA a i), 0, none⟩ = some (ptrT D1 blk (wayA a i ++ [false])) := HT2.out.nodes.kid hDx false
        have hk1 : W2.cell? ⟨blk (wayA a i), 1, none⟩ = some (ptrT D1 blk (wayA a i ++ [true])) := HT2.out.nodes.kid hDx true
        have hpx : Hid (ptrT D1 blk (wayA a i) = .pointer (some ⟨blk (wayA a i), 0, none⟩)) := ptrT_some hDx
        have hpu : Hid (ptrT D1 blk (wayA a i) = ptrT D blk (wayA a i)) := (ptrT_some hDx).trans (ptrT_some (HD.out i (by omega))).symm
        have hstay : Hid (∀ (hw : (∃ ρ, (m (wayA a i ++ ρ)).isSome = true)), ∃ D' : Way → Bool, .returned (.pointer (some ⟨blk (wayA a i), 0, none⟩)) = Ending.returned (ptrT D' blk (wayA a i)) ∧ TrieBut kI W2 bt n D' m blk (wayA a i) (ptrT D blk (wayA a i)) ∧ (∀ π, D' π = true → D π = true) ∧ (∀ π, D' π = true → (∃ ρ, (m (π ++ ρ)).isSome = true) ∨ ∃ j, j < i ∧ π = wayA a j) ∧ (∀ j, j < i → D' (wayA a j) = true) ∧ Kb own w W2) := fun hw =>
          ⟨D1, by rw [hpx.out], by rw [← hpu.out]; exact HT2.out.but _, K2.out, fun π hp => by
            rcases K3.out π hp with h | ⟨j, hj, rfl⟩
            · exact .inl h
            · by_cases e : j = i
              · subst e; exact .inl hw
              · exact .inr ⟨j, by omega, rfl⟩, fun j hj => K4.out j (by omega), K5.out⟩
        have hkid : Hid (∀ c, D1 (wayA a i ++ [c]) = true → ∃ ρ, (m (wayA a i ++ ρ)).isSome = true) := fun c hc => by
          rcases K3.out _ hc with ⟨ρ, h⟩ | ⟨j, hj, e⟩
          · exact ⟨c :: ρ, by simpa using h⟩
          · have := congrArg List.length e
            simp [wayA_len] at this; omega
        have hgone : Hid (m (wayA a i) = none → (∀ c, D1 (wayA a i ++ [c]) = false) → ∃ D' : Way → Bool, .returned (.pointer none) = Ending.returned (ptrT D' blk (wayA a i)) ∧ TrieBut kI W2 bt n D' m blk (wayA a i) (ptrT D blk (wayA a i)) ∧ (∀ π, D' π = true → D π = true) ∧ (∀ π, D' π = true → (∃ ρ, (m (π ++ ρ)).isSome = true) ∨ ∃ j, j < i ∧ π = wayA a j) ∧ (∀ j, j < i → D' (wayA a j) = true) ∧ Kb own w W2) := fun hm hc => by
          have hcase : ∀ ρ, delD D1 (wayA a i) ρ = true → D1 ρ = true ∧ ρ ≠ wayA a i := fun ρ hp => by unfold delD at hp; simpa using hp
          refine ⟨delD D1 (wayA a i), by rw [ptrT_none (by simp [delD])], by rw [← hpu.out]; exact HT2.out.lop hm hc, fun π hp => K2.out π (hcase π hp).1, fun π hp => ?_, fun j hj => ?_, K5.out⟩
          · rcases K3.out π (hcase π hp).1 with h | ⟨j, hj, rfl⟩
            · exact .inl h
            · by_cases e : j = i
              · subst e; exact absurd rfl (hcase _ hp).2
              · exact .inr ⟨j, by omega, rfl⟩
          · have h1 := K4.out j (by omega)
            have h2 : wayA a j ≠ wayA a i := fun e => by have := congrArg List.length e; simp [wayA_len] at this; omega
            simp [delD, h1, h2]
        clear hpx hpu K2 K3 K4 K5 hDx HT2
        cases hm : m (wayA a i) with
        | some v =>
          rw [hm] at hx
          have hx' : W2.cell? ⟨blk (wayA a i), 2, none⟩ = some (.bool true) := hx
          have hfin := mkHid (hstay.out ⟨[], by rw [List.append_nil, hm]; rfl⟩)
          clear hx hk0 hk1 hstay hkid hgone
          go_wp2_with fail
          go_ret
          exact hfin.out
        | none =>
          rw [hm] at hx
          have hx' : W2.cell? ⟨blk (wayA a i), 2, none⟩ = some (.bool false) := hx
          clear hx
          cases e0 : D1 (wayA a i ++ [false]) with
          | true =>
            rw [ptrT_some e0] at hk0
            have hfin := mkHid (hstay.out (hkid.out _ e0))
            obtain ⟨u1, hu1⟩ := ptrT_ptr D1 blk (wayA a i ++ [true])
            rw [hu1] at hk1
            have heq : (Op.equalIn 10000 82 (.agg #[.pointer (some ⟨blk (wayA a i ++ [false]), 0, none⟩), .pointer u1]) (.agg #[.pointer none, .pointer none])).run Try.prog W2 = .ok false W2 := eq82 W2 _ _
            clear hstay hkid hgone hu1
            go_wp2_with fail
            go_ret
            exact hfin.out
          | false =>
            rw [ptrT_none e0] at hk0
            cases e1 : D1 (wayA a i ++ [true]) with
            | true =>
              rw [ptrT_some e1] at hk1
              have hfin := mkHid (hstay.out (hkid.out _ e1))
              have heq : (Op.equalIn 10000 82 (.agg #[.pointer none, .pointer (some ⟨blk (wayA a i ++ [true]), 0, none⟩)]) (.agg #[.pointer none, .pointer none])).run Try.prog W2 = .ok false W2 := eq82 W2 _ _
              clear hstay hkid hgone
              go_wp2_with fail
              go_ret
              exact hfin.out
            | false =>
              rw [ptrT_none e1] at hk1
              have hfin := mkHid (hgone.out hm (fun c => by cases c <;> assumption))
              have heq : (Op.equalIn 10000 82 (.agg #[.pointer none, .pointer none]) (.agg #[.pointer none, .pointer none])).run Try.prog W2 = .ok true W2 := eq82 W2 _ _
              clear hstay hkid hgone
              go_wp2_with fail
              go_ret
              exact hfin.out
    | true =>
      rw [hB] at hbit
      have hwi : wayA a (i + 1) = wayA a i ++ [true] := by rw [wayA, hB]
      have hk : (w.alloc (.cells #[.int .u32 a, .int .i64 N] 34)).cell? ⟨blk (wayA a i), 1, none⟩ = some (.pointer (some ⟨blk (wayA a (i + 1)), 0, none⟩)) := by
        have := HT0.out.nodes.kid (hD i (by omega)) true
        rw [← hwi, ptrT_some (hD (i + 1) (by omega))] at this
        exact this
      go_enter Try.func43, Try.ntmps43
      go_wp2_with ((first | (go_at_call 45; (with_reducible refine (trie_bit.calls a i ((true.toNat : Nat) : Int) _ hbit.out).mono ?_); rintro e w' ⟨rfl, ⟨nd, rfl⟩⟩; (try first | exact ⟨rfl, _, World.drewN_drewN _ _ _⟩))))
      obtain ⟨W, hW⟩ : ∃ W, W = (w.alloc (.cells #[.int .u32 a, .int .i64 N] 34)).drewN nd := ⟨_, rfl⟩
      have HTW : Hid (TrieAt kI W bt n D m blk) := by rw [hW]; exact HT0.out.drewN _
      have HBW : Hid (Below w.heap.size w W) := by rw [hW]; exact pw_below_drewN HB0.out _
      have p0 : W.cell? ⟨w.heap.size, 0, none⟩ = some (.int .u32 a) := by rw [hW]; go_simp
      have p1 : W.cell? ⟨w.heap.size, 1, none⟩ = some (.int .i64 N) := by rw [hW]; go_simp
      have hkW : W.cell? ⟨blk (wayA a i), 1, none⟩ = some (.pointer (some ⟨blk (wayA a (i + 1)), 0, none⟩)) := by rw [hW]; exact hk
      rw [← hW]
      clear hW hk HT0 HB0
      have hcall : Hid (Calls Try.prog 43 #[.pointer (some ⟨blk (wayA a (i + 1)), 0, none⟩), .agg #[.int .u32 a, .int .i64 N], .int .i64 ((i : Int) + 1)] W.drew fun e w1 => ∃ u, e = .returned (.pointer u) ∧ w1.cell? ⟨blk (wayA a i), 1, none⟩ = some (.pointer (some ⟨blk (wayA a (i + 1)), 0, none⟩)) ∧ w1.frozen? ⟨blk (wayA a i), 1, none⟩ = false ∧ w1.cell? ⟨w.heap.size, 0, none⟩ = some (.int .u32 a) ∧ w1.cell? ⟨w.heap.size, 1, none⟩ = some (.int .i64 N) ∧
          Hid (∃ D1 : Way → Bool, TrieAt kI (w1.setCell ⟨blk (wayA a i), 1, none⟩ (.pointer u)) bt n D1 m blk ∧ (∀ π, D1 π = true → D π = true) ∧ (∀ π, D1 π = true → (∃ ρ, (m (π ++ ρ)).isSome = true) ∨ ∃ j, j < i + 1 ∧ π = wayA a j) ∧ (∀ j, j < i + 1 → D1 (wayA a j) = true) ∧ Kb own W w1)) := by
        have hs1 : w.heap.size < W.heap.size := World.block_lt_of_cell? _ _ p0
        refine (ih (i + 1) (by omega) W.drew D HTW.out.drew hN hO (fun b hb => Nat.lt_of_lt_of_le (hS b hb) HBW.out.size) hG).mono ?_
        rintro e w1 ⟨D1, rfl, g1, g2, g3, g4, g5⟩
        obtain ⟨u, hu⟩ := ptrT_ptr D1 blk (wayA a (i + 1))
        have hno : ¬ own w.heap.size := fun h => absurd (hS _ h) (by omega)
        have hb1 : w1.heap[w.heap.size]? = W.heap[w.heap.size]? := g5.block _ hs1 hno
        refine ⟨u, by rw [hu], ?_, froz_blk (g1.lies _ (g4 i (by omega))) 1, ?_, ?_, D1, ?_, g2, g3, g4, ⟨g5.os, g5.tape, g5.output, g5.size, g5.block⟩⟩
        · rw [cell_blk (g1.lies _ (g4 i (by omega)))]
          show some (ptrU D1 blk _ _ (wayA a i ++ [true])) = _
          rw [← hwi, ptrU_eq, ptrT_some (hD (i + 1) (by omega))]
        · unfold World.cell? at p0 ⊢; rw [hb1]; exact p0
        · unfold World.cell? at p1 ⊢; rw [hb1]; exact p1
        · rw [← hu]; exact g1.set (.inr ⟨wayA a i, true, hwi, g4 i (by omega), rfl⟩)
      have HO := mkHid hO
      have HD := mkHid hD
      have HG := mkHid hG
      have HS := mkHid hS
      have HWI := mkHid hwi
      have hn : Hid (∀ o, (⟨blk (wayA a i), 1, none⟩ : Addr) ≠ ⟨w.heap.size, o, none⟩) := fun o e => absurd (congrArg Addr.block e) (by show blk (wayA a i) ≠ w.heap.size; omega)
      clear ih hD hO hG hS hN hwi hT
      go_region_with (first | (go_at_call 43; refine hcall.out.mono ?_; rintro e w1 ⟨u, rfl, d0, e0, b0, b1, h2⟩))
      all_goals
        have HT2e := h2.out
        have K6 : Hid (Kb own w W) := Kb.of_below HBW.out
        obtain ⟨W2, hW2⟩ : ∃ W2, W2 = w1.setCell ⟨blk (wayA a i), 1, none⟩ (.pointer u) := ⟨_, rfl⟩
        obtain ⟨D1, t1, t2, t3, t4, t5⟩ := HT2e
        have HT2 : Hid (TrieAt kI W2 bt n D1 m blk) := by rw [hW2]; exact t1
        have K2 := mkHid t2
        have K3 := mkHid t3
        have K4 := mkHid t4
        have hDx := K4.out i (by omega)
        have K5 : Hid (Kb own w W2) := by rw [hW2]; exact (K6.out.trans t5).set _ (.inl (HO.out _ (HD.out i (by omega))))
        rw [← hW2]
        clear hW2 t1 t2 t3 t4 t5 h2 K6 d0 e0 b0 b1 hcall hn HG HS HWI HTW HBW p0 p1 hkW
        have hx := HT2.out.nodes.is hDx
        have hk0 : W2.cell? ⟨blk (wayA a i), 0, none⟩ = some (ptrT D1 blk (wayA a i ++ [false])) := HT2.out.nodes.kid hDx false
        have hk1 : W2.cell? ⟨blk (wayA a i), 1, none⟩ = some (ptrT D1 blk (wayA a i ++ [true])) := HT2.out.nodes.kid hDx true
        have hpx : Hid (ptrT D1 blk (wayA a i) = .pointer (some ⟨blk (wayA a i), 0, none⟩)) := ptrT_some hDx
        have hpu : Hid (ptrT D1 blk (wayA a i) = ptrT D blk (wayA a i)) := (ptrT_some hDx).trans (ptrT_some (HD.out i (by omega))).symm
        have hstay : Hid (∀ (hw : (∃ ρ, (m (wayA a i ++ ρ)).isSome = true)), ∃ D' : Way → Bool, .returned (.pointer (some ⟨blk (wayA a i), 0, none⟩)) = Ending.returned (ptrT D' blk (wayA a i)) ∧ TrieBut kI W2 bt n D' m blk (wayA a i) (ptrT D blk (wayA a i)) ∧ (∀ π, D' π = true → D π = true) ∧ (∀ π, D' π = true → (∃ ρ, (m (π ++ ρ)).isSome = true) ∨ ∃ j, j < i ∧ π = wayA a j) ∧ (∀ j, j < i → D' (wayA a j) = true) ∧ Kb own w W2) := fun hw =>
          ⟨D1, by rw [hpx.out], by rw [← hpu.out]; exact HT2.out.but _, K2.out, fun π hp => by
            rcases K3.out π hp with h | ⟨j, hj, rfl⟩
            · exact .inl h
            · by_cases e : j = i
              · subst e; exact .inl hw
              · exact .inr ⟨j, by omega, rfl⟩, fun j hj => K4.out j (by omega), K5.out⟩
        have hkid : Hid (∀ c, D1 (wayA a i ++ [c]) = true → ∃ ρ, (m (wayA a i ++ ρ)).isSome = true) := fun c hc => by
          rcases K3.out _ hc with ⟨ρ, h⟩ | ⟨j, hj, e⟩
          · exact ⟨c :: ρ, by simpa using h⟩
          · have := congrArg List.length e
            simp [wayA_len] at this; omega
        have hgone : Hid (m (wayA a i) = none → (∀ c, D1 (wayA a i ++ [c]) = false) → ∃ D' : Way → Bool, .returned (.pointer none) = Ending.returned (ptrT D' blk (wayA a i)) ∧ TrieBut kI W2 bt n D' m blk (wayA a i) (ptrT D blk (wayA a i)) ∧ (∀ π, D' π = true → D π = true) ∧ (∀ π, D' π = true → (∃ ρ, (m (π ++ ρ)).isSome = true) ∨ ∃ j, j < i ∧ π = wayA a j) ∧ (∀ j, j < i → D' (wayA a j) = true) ∧ Kb own w W2) := fun hm hc => by
          have hcase : ∀ ρ, delD D1 (wayA a i) ρ = true → D1 ρ = true ∧ ρ ≠ wayA a i := fun ρ hp => by unfold delD at hp; simpa using hp
          refine ⟨delD D1 (wayA a i), by rw [ptrT_none (by simp [delD])], by rw [← hpu.out]; exact HT2.out.lop hm hc, fun π hp => K2.out π (hcase π hp).1, fun π hp => ?_, fun j hj => ?_, K5.out⟩
          · rcases K3.out π (hcase π hp).1 with h | ⟨j, hj, rfl⟩
            · exact .inl h
            · by_cases e : j = i
              · subst e; exact absurd rfl (hcase _ hp).2
              · exact .inr ⟨j, by omega, rfl⟩
          · have h1 := K4.out j (by omega)
            have h2 : wayA a j ≠ wayA a i := fun e => by have := congrArg List.length e; simp [wayA_len] at this; omega
            simp [delD, h1, h2]
        clear hpx hpu K2 K3 K4 K5 hDx HT2
        cases hm : m (wayA a i) with
        | some v =>
          rw [hm] at hx
          have hx' : W2.cell? ⟨blk (wayA a i), 2, none⟩ = some (.bool true) := hx
          have hfin := mkHid (hstay.out ⟨[], by rw [List.append_nil, hm]; rfl⟩)
          clear hx hk0 hk1 hstay hkid hgone
          go_wp2_with fail
          go_ret
          exact hfin.out
        | none =>
          rw [hm] at hx
          have hx' : W2.cell? ⟨blk (wayA a i), 2, none⟩ = some (.bool false) := hx
          clear hx
          cases e0 : D1 (wayA a i ++ [false]) with
          | true =>
            rw [ptrT_some e0] at hk0
            have hfin := mkHid (hstay.out (hkid.out _ e0))
            obtain ⟨u1, hu1⟩ := ptrT_ptr D1 blk (wayA a i ++ [true])
            rw [hu1] at hk1
            have heq : (Op.equalIn 10000 82 (.agg #[.pointer (some ⟨blk (wayA a i ++ [false]), 0, none⟩), .pointer u1]) (.agg #[.pointer none, .pointer none])).run Try.prog W2 = .ok false W2 := eq82 W2 _ _
            clear hstay hkid hgone hu1
            go_wp2_with fail
            go_ret
            exact hfin.out
          | false =>
            rw [ptrT_none e0] at hk0
            cases e1 : D1 (wayA a i ++ [true]) with
            | true =>
              rw [ptrT_some e1] at hk1
              have hfin := mkHid (hstay.out (hkid.out _ e1))
              have heq : (Op.equalIn 10000 82 (.agg #[.pointer none, .pointer (some ⟨blk (wayA a i ++ [true]), 0, none⟩)]) (.agg #[.pointer none, .pointer none])).run Try.prog W2 = .ok false W2 := eq82 W2 _ _
              clear hstay hkid hgone
              go_wp2_with fail
              go_ret
              exact hfin.out
            | false =>
              rw [ptrT_none e1] at hk1
              have hfin := mkHid (hgone.out hm (fun c => by cases c <;> assumption))
              have heq : (Op.equalIn 10000 82 (.agg #[.pointer none, .pointer none]) (.agg #[.pointer none, .pointer none])).run Try.prog W2 = .ok true W2 := eq82 W2 _ _
              clear hstay hkid hgone
              go_wp2_with fail
              go_ret
              exact hfin.out
end Go.Proofs.Ytnihacajjpcjeaa

end
section
namespace Go.Proofs.Ytnihacajjpcjeaa
open Go.RowKit Go.Proofs.Ytnihacajjpcjeaa.P Go.Proofs.YtnihacajjpcjeaaW.PrintWords Go.Proofs.YtnihacajjpcjeaaW.PrintLast Go.Proofs.YtnihacajjpcjeaaW.PrintMore
set_option linter.unusedVariables false
set_option linter.unusedSimpArgs false

set_option maxHeartbeats 8000000 in
set_option maxRecDepth 100000 in
theorem drop_not (w : World) (bt : Nat) (a b : Int) (hM : addr_May.f a b = some false) :
    Calls Try.prog 18 #[.pointer (some ⟨bt, 0, none⟩), .agg #[.int .u32 a, .int .i64 b]] w fun e w' => e = .returned (.bool false) ∧ Below w.heap.size w w' := by
  have HM := mkHid hM
  have HB0 : Hid (Below w.heap.size w (w.alloc (.cells #[.int .u32 a, .int .i64 b] 34))) := Below.alloc (Below.refl _ w) (Nat.le_refl _) _
  clear hM
  go_enter Try.func18, Try.ntmps18
  go_wp2_with fail
  refine (find_not _ bt a b HM.out).mono ?_
  rintro e w1 ⟨rfl, hb⟩
  have HB := mkHid (below_step HB0.out hb)
  clear hb
  go_wp2_with fail
  go_ret
  exact ⟨rfl, HB.out⟩
set_option maxHeartbeats 8000000 in
set_option maxRecDepth 100000 in
theorem drop_none (w : World) (bt : Nat) (own : Nat → Prop) (n : Int) (m : Way → Option Int) (hT : Tri kI w bt own n m) (a : Int) (N : Nat) (h0 : 0 ≤ a) (h1 : a < 4294967296) (b1 : N ≤ 32) (hM : addr_May.f a N = some true) (hm : m (wayA a N) = none) :
    Calls Try.prog 18 #[.pointer (some ⟨bt, 0, none⟩), .agg #[.int .u32 a, .int .i64 N]] w fun e w' => e = .returned (.bool false) ∧ Below w.heap.size w w' := by
  have HM := mkHid hM
  have HB0 : Hid (Below w.heap.size w (w.alloc (.cells #[.int .u32 a, .int .i64 N] 34))) := Below.alloc (Below.refl _ w) (Nat.le_refl _) _
  obtain ⟨D, blk, g1, g2, g3, g4⟩ := hT
  have G1 := mkHid (g1.below HB0.out)
  clear hM g1 g2 g3 g4
  go_enter Try.func18, Try.ntmps18
  go_wp2_with fail
  refine (find_calls _ bt n D m blk G1.out a N h0 h1 b1 HM.out).mono ?_
  rintro e w1 ⟨rfl, hb⟩
  have HB := mkHid (below_step HB0.out hb)
  have HT := mkHid (G1.out.below hb)
  clear hb
  cases hD : D (wayA a N) with
  | false =>
    rw [ptrT_none hD]
    go_wp2_with fail
    go_ret
    exact ⟨rfl, HB.out⟩
  | true =>
    rw [ptrT_some hD]
    have c2 := HT.out.nodes.is hD
    rw [hm] at c2
    have c3 : w1.cell? ⟨blk (wayA a N), 2, none⟩ = some (.bool false) := c2
    clear c2
    go_wp2_with fail
    go_ret
    exact ⟨rfl, HB.out⟩
set_option maxHeartbeats 8000000 in
set_option maxRecDepth 100000 in
theorem drop_calls (w : World) (bt : Nat) (own : Nat → Prop) (n : Int) (m : Way → Option Int) (hT : Tri kI w bt own n m) (hS : ∀ b, own b → b < w.heap.size) (a : Int) (N : Nat) (h0 : 0 ≤ a) (h1 : a < 4294967296) (b1 : N ≤ 32) (n0 : 0 < n) (n1 : n < 1000000) (hM : addr_May.f a N = some true) (v : Int) (hm : m (wayA a N) = some v) :
    Calls Try.prog 18 #[.pointer (some ⟨bt, 0, none⟩), .agg #[.int .u32 a, .int .i64 N]] w fun e w' => e = .returned (.bool true) ∧ Tri kI w' bt own (n - 1) (putM m (wayA a N) none) ∧ Kb own w w' := by
  have HM := mkHid hM
  have HB0 : Hid (Below w.heap.size w (w.alloc (.cells #[.int .u32 a, .int .i64 N] 34))) := Below.alloc (Below.refl _ w) (Nat.le_refl _) _
  have hx0 : (w.alloc (.cells #[.int .u32 a, .int .i64 N] 34)).cell? ⟨w.heap.size, 0, none⟩ = some (.int .u32 a) := by go_simp
  have hx1 : (w.alloc (.cells #[.int .u32 a, .int .i64 N] 34)).cell? ⟨w.heap.size, 1, none⟩ = some (.int .i64 N) := by go_simp
  obtain ⟨D, blk, g1, g2, g3, g4⟩ := hT
  have G1 := mkHid (g1.below HB0.out)
  have G2 := mkHid g2
  have G3 : Hid (own bt ∧ bt < w.heap.size) := ⟨g3, blk_lt g1.root⟩
  have G4 := mkHid g4
  have HS := mkHid hS
  clear hM g1 g2 g3 g4 hS
  go_enter Try.func18, Try.ntmps18
  go_wp2_with fail
  refine (find_calls _ bt n D m blk G1.out a N h0 h1 b1 HM.out).mono ?_
  rintro e w1 ⟨rfl, hb⟩
  have HB := mkHid (below_step HB0.out hb)
  have hs : w.heap.size < w1.heap.size := by have := hb.size; simp at this; omega
  have q0 : w1.cell? ⟨w.heap.size, 0, none⟩ = some (.int .u32 a) := (hb.cell (by simp)).trans hx0
  have q1 : w1.cell? ⟨w.heap.size, 1, none⟩ = some (.int .i64 N) := (hb.cell (by simp)).trans hx1
  have HT := mkHid (G1.out.below hb)
  have hD : D (wayA a N) = true := HT.out.nodes.sup _ (by rw [hm]; rfl)
  rw [ptrT_some hD]
  have c2 := HT.out.nodes.is hD
  have c4 : w1.cell? ⟨blk (wayA a N), 3, none⟩ = some (.int .i64 ((m (wayA a N)).getD 0)) := HT.out.nodes.val hD
  rw [hm] at c2 c4
  have c3 : w1.cell? ⟨blk (wayA a N), 2, none⟩ = some (.bool true) := c2
  have f2 : w1.frozen? ⟨blk (wayA a N), 2, none⟩ = false := froz_blk (HT.out.nodes.lies _ hD) _
  have f3 : w1.frozen? ⟨blk (wayA a N), 3, none⟩ = false := froz_blk (HT.out.nodes.lies _ hD) _
  have HT3 : Hid (TrieAt kI ((w1.setCell ⟨blk (wayA a N), 2, none⟩ (.bool false)).setCell ⟨blk (wayA a N), 3, none⟩ (.int .i64 0)) bt n D (putM m (wayA a N) none) blk) := HT.out.write hD none
  have d1 := HT3.out.cell1
  have e1 : ((w1.setCell ⟨blk (wayA a N), 2, none⟩ (.bool false)).setCell ⟨blk (wayA a N), 3, none⟩ (.int .i64 0)).frozen? ⟨bt, 1, none⟩ = false := froz_blk HT3.out.root 1
  have HT4 := mkHid (HT3.out.count (n - 1))
  have hw : IntKind.i64.wrap (n - 1) = n - 1 := IntWalk.i64_in _ (by omega)
  clear hb hx0 hx1 c2 G1 HT
  go_upto_region 7 with fail
  obtain ⟨W, hW⟩ : ∃ W, W = ((w1.setCell ⟨blk (wayA a N), 2, none⟩ (.bool false)).setCell ⟨blk (wayA a N), 3, none⟩ (.int .i64 0)).setCell ⟨bt, 1, none⟩ (.int .i64 (n - 1)) := ⟨_, rfl⟩
  have hog : own (blk (wayA a N)) := G4.out _ hD
  have hxn : blk (wayA a N) ≠ w.heap.size := fun e => absurd (HS.out _ hog) (by omega)
  have hbn : bt ≠ w.heap.size := by have := G3.out.2; omega
  have p0 : W.cell? ⟨w.heap.size, 0, none⟩ = some (.int .u32 a) := by
    rw [hW, World.cell?_setCell_other _ _ _ _ (fun e => hbn (congrArg Addr.block e)), World.cell?_setCell_other _ _ _ _ (fun e => hxn (congrArg Addr.block e)), World.cell?_setCell_other _ _ _ _ (fun e => hxn (congrArg Addr.block e))]; exact q0
  have p1 : W.cell? ⟨w.heap.size, 1, none⟩ = some (.int .i64 N) := by
    rw [hW, World.cell?_setCell_other _ _ _ _ (fun e => hbn (congrArg Addr.block e)), World.cell?_setCell_other _ _ _ _ (fun e => hxn (congrArg Addr.block e)), World.cell?_setCell_other _ _ _ _ (fun e => hxn (congrArg Addr.block e))]; exact q1
  have HTW : Hid (TrieAt kI W bt (n - 1) D (putM m (wayA a N) none) blk) := by rw [hW]; exact HT4.out
  have HKW : Hid (Kb own w W) := by
    rw [hW]
    exact (((Kb.of_below HB.out).set _ (.inl hog)).set _ (.inl hog)).set _ (.inl G3.out.1)
  rw [← hW]
  clear hW HT4 HT3 d1 e1 f2 f3 c3 c4 q0 q1 hog hxn hs HB
  have hroot : D [] = true := HTW.out.nodes.ups _ [] hD
  have hkW : W.cell? ⟨bt, 0, none⟩ = some (.pointer (some ⟨blk [], 0, none⟩)) := by rw [HTW.out.cell0, ptrT_some hroot]
  have hcall : Hid (Calls Try.prog 43 #[.pointer (some ⟨blk [], 0, none⟩), .agg #[.int .u32 a, .int .i64 N], .int .i64 0] W.drew fun e w1 => ∃ u, e = .returned (.pointer u) ∧ w1.cell? ⟨bt, 0, none⟩ = some (.pointer (some ⟨blk [], 0, none⟩)) ∧ w1.frozen? ⟨bt, 0, none⟩ = false ∧ w1.cell? ⟨w.heap.size, 0, none⟩ = some (.int .u32 a) ∧ w1.cell? ⟨w.heap.size, 1, none⟩ = some (.int .i64 N) ∧
      Hid (Tri kI (w1.setCell ⟨bt, 0, none⟩ (.pointer u)) bt own (n - 1) (putM m (wayA a N) none) ∧ Kb own w (w1.setCell ⟨bt, 0, none⟩ (.pointer u)))) := by
    have hs1 : w.heap.size < W.heap.size := World.block_lt_of_cell? _ _ p0
    refine (prune_calls bt own (n - 1) (putM m (wayA a N) none) blk a N h0 h1 b1 G3.out.1 N 0 (by omega) W.drew D HTW.out.drew hD G4.out (fun b hb => Nat.lt_of_lt_of_le (HS.out b hb) HKW.out.size) (fun π hp => ?_)).mono ?_
    · obtain ⟨ρ, hr⟩ := G2.out π hp
      by_cases e : π ++ ρ = wayA a N
      · refine .inr ⟨π.length, ?_, ?_⟩
        · have := congrArg List.length e; rw [List.length_append, wayA_len] at this; omega
        · rw [← wayA_take a N π.length (by have := congrArg List.length e; rw [List.length_append, wayA_len] at this; omega), ← e, List.take_left]
      · exact .inl ⟨ρ, by rw [putM_ne e]; exact hr⟩
    · rintro e w2 ⟨D1, rfl, g1, g2, g3, g4, g5⟩
      obtain ⟨u, hu⟩ := ptrT_ptr D1 blk []
      have hno : ¬ own w.heap.size := fun h => absurd (HS.out _ h) (by omega)
      have hb1 : w2.heap[w.heap.size]? = W.heap[w.heap.size]? := g5.block _ hs1 hno
      refine ⟨u, by rw [show wayA a 0 = [] from rfl, hu], ?_, froz_blk g1.root 0, ?_, ?_, ⟨D1, blk, ?_, fun π hp => ?_, G3.out.1, fun π hp => G4.out π (g2 π hp)⟩, ?_⟩
      · rw [cell_blk g1.root]
        show some (ptrU D1 blk [] (ptrT D blk []) []) = _
        rw [ptrU_eq, ptrT_some hroot]
      · unfold World.cell? at p0 ⊢; rw [hb1]; exact p0
      · unfold World.cell? at p1 ⊢; rw [hb1]; exact p1
      · rw [← hu]; exact g1.set (.inl ⟨rfl, rfl⟩)
      · rcases g3 π hp with h | ⟨j, hj, _⟩
        · exact h
        · omega
      · exact (HKW.out.trans ⟨g5.os, g5.tape, g5.output, g5.size, g5.block⟩).set _ (.inl G3.out.1)
  have hn : Hid (∀ o, (⟨bt, 0, none⟩ : Addr) ≠ ⟨w.heap.size, o, none⟩) := fun o e => hbn (congrArg Addr.block e)
  clear hbn hD hroot hm
  go_region_with (first | (go_at_call 43; refine hcall.out.mono ?_; rintro e w2 ⟨u, rfl, d0, e0, b0, b1, h2⟩))
  all_goals
    have HF := mkHid h2.out
    clear h2 d0 e0 b0 b1 hcall
    go_wp2_with fail
    go_ret
    exact ⟨rfl, HF.out.1, HF.out.2⟩
end Go.Proofs.Ytnihacajjpcjeaa

end
section
namespace Go.Proofs.Ytnihacajjpcjeaa
open Go.RowKit Go.Proofs.Ytnihacajjpcjeaa.P Go.Proofs.YtnihacajjpcjeaaW.PrintWords Go.Proofs.YtnihacajjpcjeaaW.PrintLast Go.Proofs.YtnihacajjpcjeaaW.PrintMore
set_option linter.unusedVariables false
set_option linter.unusedSimpArgs false

/-- the longest of the first i lengths: its length, its value -/
def bstT {V : Type} (m : Way → Option V) (a : Int) : Nat → Option (Nat × V)
  | 0 => none
  | i + 1 => match m (wayA a i) with
    | some v => some (i, v)
    | none => bstT m a i
theorem bst_stay {V : Type} {m : Way → Option V} {a : Int} {i : Nat} : ∀ d, (∀ j, i ≤ j → j < i + d → m (wayA a j) = none) → bstT m a (i + d) = bstT m a i := by
  intro d
  induction d with
  | zero => intro _; rfl
  | succ d ih =>
    intro h
    show (match m (wayA a (i + d)) with | some v => some (i + d, v) | none => bstT m a (i + d)) = _
    rw [h (i + d) (by omega) (by omega)]
    exact ih (fun j h1 h2 => h j h1 (by omega))
theorem bst_some {V : Type} {m : Way → Option V} {a : Int} {i : Nat} {v : V} (h : m (wayA a i) = some v) : bstT m a (i + 1) = some (i, v) := by simp [bstT, h]
theorem bst_none {V : Type} {m : Way → Option V} {a : Int} {i : Nat} (h : m (wayA a i) = none) : bstT m a (i + 1) = bstT m a i := by simp [bstT, h]
def bA {V : Type} (a : Int) (o : Option (Nat × V)) : Int := match o with | some x => adrA a x.1 | none => 0
def bB {V : Type} (o : Option (Nat × V)) : Int := match o with | some x => (x.1 : Int) | none => 0
def bV (o : Option (Nat × Int)) : Int := match o with | some x => x.2 | none => 0

set_option maxHeartbeats 8000000 in
set_option maxRecDepth 100000 in
theorem lng_calls (w : World) (bt : Nat) (own : Nat → Prop) (n : Int) (m : Way → Option Int) (hT : Tri kI w bt own n m) (a : Int) (h0 : 0 ≤ a) (h1 : a < 4294967296) :
    Calls Try.prog 21 #[.pointer (some ⟨bt, 0, none⟩), .int .u32 a] w fun e w' => e = .returned (.tuple #[.agg #[.int .u32 (bA a (bstT m a 33)), .int .i64 (bB (bstT m a 33))], .int .i64 (bV (bstT m a 33)), .bool (bstT m a 33).isSome]) ∧ Below w.heap.size w w' := by
  obtain ⟨D, blk, g1, g2, g3, g4⟩ := hT
  have G1 := mkHid g1
  have hc0 := g1.cell0
  have hbt := blk_lt g1.root
  clear g1 g2 g3 g4
  go_enter Try.func21, Try.ntmps21
  go_upto_region 7 with fail
  obtain ⟨S0, hS0⟩ : ∃ S0, S0 = w.heap.size := ⟨_, rfl⟩
  obtain ⟨W, hW⟩ : ∃ W, W = ((w.alloc (.cells #[.int .u32 0, .int .i64 0] 34)).alloc (.cells #[.int .u32 0, .int .i64 0] 34)).alloc (.cells #[.int .u32 0, .int .i64 0] 34) := ⟨_, rfl⟩
  have hB : Hid (Below w.heap.size w W) := by rw [hW]; exact (((Below.refl w.heap.size w).alloc (Nat.le_refl _) _).alloc (by simp) _).alloc (by simp; omega) _
  have r4 : W.heap[S0]? = some (.cells #[.int .u32 0, .int .i64 0] 34 (0, 0)) := by
    rw [hW, hS0]; exact blk_alloc (blk_alloc (heap_alloc_new w _) _) _
  have r7 : W.heap[S0 + 1]? = some (.cells #[.int .u32 0, .int .i64 0] 34 (0, 0)) := by
    rw [hW, hS0]
    have := heap_alloc_new (w.alloc (.cells #[.int .u32 0, .int .i64 0] 34)) (.cells #[.int .u32 0, .int .i64 0] 34)
    rw [World.size_alloc] at this
    exact blk_alloc this _
  have r10 : W.heap[S0 + 1 + 1]? = some (.cells #[.int .u32 0, .int .i64 0] 34 (0, 0)) := by
    rw [hW, hS0]
    have := heap_alloc_new ((w.alloc (.cells #[.int .u32 0, .int .i64 0] 34)).alloc (.cells #[.int .u32 0, .int .i64 0] 34)) (.cells #[.int .u32 0, .int .i64 0] 34)
    rw [World.size_alloc, World.size_alloc] at this
    exact this
  have HTW := mkHid (G1.out.below hB.out)
  have hcW := HTW.out.cell0
  rw [← hW, ← hS0]
  rw [← hS0] at hbt hB
  obtain ⟨S1, hS1⟩ : ∃ S1, S1 = S0 + 1 := ⟨_, rfl⟩
  obtain ⟨S2, hS2⟩ : ∃ S2, S2 = S1 + 1 := ⟨_, rfl⟩
  rw [← hS1] at r7 r10
  rw [← hS2] at r10
  rw [← hS1, ← hS2]
  have hsl : Hid (S1 = S0 + 1 ∧ S2 = S0 + 2 ∧ S0 = w.heap.size) := ⟨hS1, by omega, hS0⟩
  have R4 := mkHid r4
  have R7 := mkHid r7
  have R10 := mkHid r10
  clear hW hc0 r4 r7 r10 HTW hS1 hS2 hS0
  go_wp2_with fail
  go_loopg [8, 9, 11] 32 (fun kq v8 v9 v11 wr => ∃ i : Nat, v11 = ptrT D blk (wayA a i) ∧ i ≤ 32 ∧ v8 = .int .i64 (bV (bstT m a i)) ∧ v9 = .bool (bstT m a i).isSome ∧ i + kq = 32 ∧ Hid (wr.heap[S0]? = some (.cells #[.int .u32 0, .int .i64 0] 34 (0, 0))) ∧ Hid (wr.heap[S1]? = some (.cells #[.int .u32 (bA a (bstT m a i)), .int .i64 (bB (bstT m a i))] 34 (0, 0))) ∧ Hid (wr.heap[S2]? = some (.cells #[.int .u32 (adrA a i), .int .i64 i] 34 (0, 0))) ∧ Hid (Below S0 w wr))
  case atStart => exact ⟨0, rfl, by omega, rfl, rfl, by omega, R4.out, R7.out, (by rw [adrA_zero a h0 h1]; exact R10.out), hB⟩
  case round =>
    clear R4 R7 R10 hB hcW
    obtain ⟨i, rfl, hi, rfl, rfl, hk, R4, R7, R10, HB⟩ := hrel
    have HBw : Hid (Below w.heap.size w wr) := by rw [← hsl.out.2.2]; exact HB.out
    have HT := mkHid (G1.out.below HBw.out)
    cases hD : D (wayA a i) with
    | false =>
      rw [ptrT_none hD]
      have hbf : Hid (bstT m a 33 = bstT m a i) := by
        have := bst_stay (m := m) (a := a) (i := i) (33 - i) (fun j h1 h2 => by
          obtain ⟨ρ, hρ⟩ := wayA_split a h1
          cases hv : m (wayA a j) with
          | none => rfl
          | some v =>
            have h3 := HT.out.nodes.sup (wayA a j) (by rw [hv]; rfl)
            rw [hρ] at h3
            rw [HT.out.nodes.ups ρ _ h3] at hD; cases hD)
        rw [show i + (33 - i) = 33 by omega] at this
        exact this
      have p0 : wr.cell? ⟨S1, 0, none⟩ = some (.int .u32 (bA a (bstT m a i))) := blk_cell R7.out 0
      have p1 : wr.cell? ⟨S1, 1, none⟩ = some (.int .i64 (bB (bstT m a i))) := blk_cell R7.out 1
      have t0 : wr.cell? ⟨S0, 0, none⟩ = some (.int .u32 0) := blk_cell R4.out 0
      have t1 : wr.cell? ⟨S0, 1, none⟩ = some (.int .i64 0) := blk_cell R4.out 1
      have tf0 : wr.frozen? ⟨S0, 0, none⟩ = false := blk_frozen R4.out _
      have tf1 : wr.frozen? ⟨S0, 1, none⟩ = false := blk_frozen R4.out _
      have z := blk_set (blk_set R4.out 0 (.int .u32 (bA a (bstT m a i)))) 1 (.int .i64 (bB (bstT m a i)))
      have z0 : ((wr.setCell ⟨S0, 0, none⟩ (.int .u32 (bA a (bstT m a i)))).setCell ⟨S0, 1, none⟩ (.int .i64 (bB (bstT m a i)))).cell? ⟨S0, 0, none⟩ = some (.int .u32 (bA a (bstT m a i))) := blk_cell z 0
      have z1 : ((wr.setCell ⟨S0, 0, none⟩ (.int .u32 (bA a (bstT m a i)))).setCell ⟨S0, 1, none⟩ (.int .i64 (bB (bstT m a i)))).cell? ⟨S0, 1, none⟩ = some (.int .i64 (bB (bstT m a i))) := blk_cell z 1
      have hend : Hid (Below w.heap.size w ((wr.setCell ⟨S0, 0, none⟩ (.int .u32 (bA a (bstT m a i)))).setCell ⟨S0, 1, none⟩ (.int .i64 (bB (bstT m a i))))) := by
        rw [← hsl.out.2.2]; exact (HB.out.setCell (Nat.le_refl _) _).setCell (Nat.le_refl _) _
      clear z
      go_wp2_with fail
      refine bodyPost_ret (v := .tuple #[.agg #[.int .u32 (bA a (bstT m a i)), .int .i64 (bB (bstT m a i))], .int .i64 (bV (bstT m a i)), .bool (bstT m a i).isSome]) ?_ rfl ⟨by rw [hbf.out], hend.out⟩
      simp [results, Try.results21, go_sem, z0, z1]
    | true =>
      rw [ptrT_some hD]
      have c2 := HT.out.nodes.is hD
      have c3 : wr.cell? ⟨blk (wayA a i), 3, none⟩ = some (.int .i64 ((m (wayA a i)).getD 0)) := HT.out.nodes.val hD
      have q0 := blk_cell R10.out 0
      have q1 := blk_cell R10.out 1
      have q0' : wr.cell? ⟨S2, 0, none⟩ = some (.int .u32 (adrA a i)) := q0
      have q1' : wr.cell? ⟨S2, 1, none⟩ = some (.int .i64 i) := q1
      clear q0 q1
      cases hm : m (wayA a i)
      case' some v =>
        rw [hm] at c2 c3
        have c2' : wr.cell? ⟨blk (wayA a i), 2, none⟩ = some (.bool true) := c2
        have c3' : wr.cell? ⟨blk (wayA a i), 3, none⟩ = some (.int .i64 v) := c3
        have p0 : wr.cell? ⟨S1, 0, none⟩ = some (.int .u32 (bA a (bstT m a i))) := blk_cell R7.out 0
        have p1 : wr.cell? ⟨S1, 1, none⟩ = some (.int .i64 (bB (bstT m a i))) := blk_cell R7.out 1
        have pf0 : wr.frozen? ⟨S1, 0, none⟩ = false := blk_frozen R7.out _
        have pf1 : wr.frozen? ⟨S1, 1, none⟩ = false := blk_frozen R7.out _
        clear c2 c3
        have hfar : ∀ g o, g ≠ S1 → ∀ x y, ((wr.setCell ⟨S1, 0, none⟩ x).setCell ⟨S1, 1, none⟩ y).cell? ⟨g, o, none⟩ = wr.cell? ⟨g, o, none⟩ := fun g o hg x y => by
          rw [World.cell?_setCell_other _ _ _ _ (fun e => hg (congrArg Addr.block e).symm), World.cell?_setCell_other _ _ _ _ (fun e => hg (congrArg Addr.block e).symm)]
        have hblt : blk (wayA a i) < S0 := by have := G1.out.nodes.lt hD; have := hsl.out; omega
        have hX : Hid (((wr.setCell ⟨S1, 0, none⟩ (.int .u32 (adrA a i))).setCell ⟨S1, 1, none⟩ (.int .i64 i)).cell? ⟨S2, 0, none⟩ = some (.int .u32 (adrA a i)) ∧ ((wr.setCell ⟨S1, 0, none⟩ (.int .u32 (adrA a i))).setCell ⟨S1, 1, none⟩ (.int .i64 i)).cell? ⟨S2, 1, none⟩ = some (.int .i64 i) ∧ ((wr.setCell ⟨S1, 0, none⟩ (.int .u32 (adrA a i))).setCell ⟨S1, 1, none⟩ (.int .i64 i)).cell? ⟨blk (wayA a i), 3, none⟩ = some (.int .i64 v)) :=
          ⟨(hfar _ _ (by have := hsl.out; omega) _ _).trans q0', (hfar _ _ (by have := hsl.out; omega) _ _).trans q1', (hfar _ _ (by have := hsl.out; omega) _ _).trans c3'⟩
        clear hfar
        go_upto_region 11 with fail
        go_region_held3 (fun w' => w'.cell? ⟨S2, 0, none⟩ = some (.int .u32 (adrA a i)) ∧ w'.cell? ⟨S2, 1, none⟩ = some (.int .i64 i) ∧ w'.cell? ⟨blk (wayA a i), 3, none⟩ = some (.int .i64 v)) (first | (go_keep; done) | exact hX.out) (first | fail)
        obtain ⟨W2, hW2⟩ : ∃ W2, W2 = ((wr.setCell ⟨S1, 0, none⟩ (.int .u32 (adrA a i))).setCell ⟨S1, 1, none⟩ (.int .i64 i)).drew := ⟨_, rfl⟩
        have hbst : Hid (bstT m a (i + 1) = some (i, v)) := bst_some hm
        have R4' : Hid (W2.heap[S0]? = some (.cells #[.int .u32 0, .int .i64 0] 34 (0, 0))) := by
          rw [hW2]; exact blk_drew (blk_far (blk_far R4.out (show S0 ≠ S1 by have := hsl.out; omega) _) (show S0 ≠ S1 by have := hsl.out; omega) _)
        have R7' : Hid (W2.heap[S1]? = some (.cells #[.int .u32 (bA a (bstT m a (i + 1))), .int .i64 (bB (bstT m a (i + 1)))] 34 (0, 0))) := by
          rw [hW2, hbst.out]; exact blk_drew (blk_set (blk_set R7.out 0 _) 1 _)
        have R10' : Hid (W2.heap[S2]? = some (.cells #[.int .u32 (adrA a i), .int .i64 i] 34 (0, 0))) := by
          rw [hW2]; exact blk_drew (blk_far (blk_far R10.out (show S2 ≠ S1 by have := hsl.out; omega) _) (show S2 ≠ S1 by have := hsl.out; omega) _)
        have HB' : Hid (Below S0 w W2) := by
          rw [hW2]; exact ((HB.out.setCell (show S0 ≤ S1 by have := hsl.out; omega) _).setCell (show S0 ≤ S1 by have := hsl.out; omega) _).drew
        rw [← hW2]
        clear hW2 hX hblt p0 p1 pf0 pf1 c3' c2' q0' q1' R4 R7 R10 HB HBw HT
      case' none =>
        rw [hm] at c2
        have c2' : wr.cell? ⟨blk (wayA a i), 2, none⟩ = some (.bool false) := c2
        clear c2 c3
        go_upto_region 12 with fail
        obtain ⟨W2, hW2⟩ : ∃ W2, W2 = wr := ⟨_, rfl⟩
        have hbst : Hid (bstT m a (i + 1) = bstT m a i) := bst_none hm
        have R4' : Hid (W2.heap[S0]? = some (.cells #[.int .u32 0, .int .i64 0] 34 (0, 0))) := by rw [hW2]; exact R4.out
        have R7' : Hid (W2.heap[S1]? = some (.cells #[.int .u32 (bA a (bstT m a (i + 1))), .int .i64 (bB (bstT m a (i + 1)))] 34 (0, 0))) := by rw [hW2, hbst.out]; exact R7.out
        have R10' : Hid (W2.heap[S2]? = some (.cells #[.int .u32 (adrA a i), .int .i64 i] 34 (0, 0))) := by rw [hW2]; exact R10.out
        have HB' : Hid (Below S0 w W2) := by rw [hW2]; exact HB.out
        rw [← hW2]
        clear hW2 c2' q0' q1' R4 R7 R10 HB HBw HT
      all_goals
        have HT := mkHid (G1.out.below (show Below w.heap.size w W2 by rw [← hsl.out.2.2]; exact HB'.out))
        have q0 : W2.cell? ⟨S2, 0, none⟩ = some (.int .u32 (adrA a i)) := blk_cell R10'.out 0
        have q1 : W2.cell? ⟨S2, 1, none⟩ = some (.int .i64 i) := blk_cell R10'.out 1
        clear hm
        by_cases h32 : i = 32
        · subst h32
          have p0 : W2.cell? ⟨S1, 0, none⟩ = some (.int .u32 (bA a (bstT m a 33))) := blk_cell R7'.out 0
          have p1 : W2.cell? ⟨S1, 1, none⟩ = some (.int .i64 (bB (bstT m a 33))) := blk_cell R7'.out 1
          have t0 : W2.cell? ⟨S0, 0, none⟩ = some (.int .u32 0) := blk_cell R4'.out 0
          have t1 : W2.cell? ⟨S0, 1, none⟩ = some (.int .i64 0) := blk_cell R4'.out 1
          have tf0 : W2.frozen? ⟨S0, 0, none⟩ = false := blk_frozen R4'.out _
          have tf1 : W2.frozen? ⟨S0, 1, none⟩ = false := blk_frozen R4'.out _
          have z := blk_set (blk_set R4'.out 0 (.int .u32 (bA a (bstT m a 33)))) 1 (.int .i64 (bB (bstT m a 33)))
          have z0 : ((W2.setCell ⟨S0, 0, none⟩ (.int .u32 (bA a (bstT m a 33)))).setCell ⟨S0, 1, none⟩ (.int .i64 (bB (bstT m a 33)))).cell? ⟨S0, 0, none⟩ = some (.int .u32 (bA a (bstT m a 33))) := blk_cell z 0
          have z1 : ((W2.setCell ⟨S0, 0, none⟩ (.int .u32 (bA a (bstT m a 33)))).setCell ⟨S0, 1, none⟩ (.int .i64 (bB (bstT m a 33)))).cell? ⟨S0, 1, none⟩ = some (.int .i64 (bB (bstT m a 33))) := blk_cell z 1
          have hend : Hid (Below w.heap.size w ((W2.setCell ⟨S0, 0, none⟩ (.int .u32 (bA a (bstT m a 33)))).setCell ⟨S0, 1, none⟩ (.int .i64 (bB (bstT m a 33))))) := by
            rw [← hsl.out.2.2]; exact (HB'.out.setCell (Nat.le_refl _) _).setCell (Nat.le_refl _) _
          clear z
          go_wp2_with fail
          refine bodyPost_ret (v := .tuple #[.agg #[.int .u32 (bA a (bstT m a 33)), .int .i64 (bB (bstT m a 33))], .int .i64 (bV (bstT m a 33)), .bool (bstT m a 33).isSome]) ?_ rfl ⟨rfl, hend.out⟩
          have hb33 := hbst.out
          simp only [Nat.reduceAdd] at hb33
          simp only [hb33] at z0 z1
          simp [results, Try.results21, go_sem, z0, z1, hb33, bV]
        · have e32 : ((i : Int) == 32) = false := beq_eq_false_iff_ne.mpr (by omega)
          have hk0 : W2.cell? ⟨blk (wayA a i), 0, none⟩ = some (ptrT D blk (wayA a i ++ [false])) := HT.out.nodes.kid hD false
          have hk1 : W2.cell? ⟨blk (wayA a i), 1, none⟩ = some (ptrT D blk (wayA a i ++ [true])) := HT.out.nodes.kid hD true
          have hbit : Hid (trie_bit.f a (i : Int) = some ((bitB a i).toNat : Int)) := tbit_ev a i h0 h1 (by omega)
          have hw31 : IntKind.i64.wrap (31 - (i : Int)) = ((31 - i : Nat) : Int) := by rw [IntWalk.i64_in _ (by omega)]; omega
          have f0 : W2.frozen? ⟨S2, 0, none⟩ = false := blk_frozen R10'.out _
          have f1 : W2.frozen? ⟨S2, 1, none⟩ = false := blk_frozen R10'.out _
          cases hB : bitB a i with
          | false =>
            rw [hB] at hbit
            have hor := mkHid (adrA_or0 a i (by omega) h0 h1 hB)
            go_upto_region 13 with fail
            go_upto_region 14 with (first | (go_at_call 45; (with_reducible refine (trie_bit.calls a i ((false.toNat : Nat) : Int) _ hbit.out).mono ?_); rintro e w' ⟨rfl, ⟨nd, rfl⟩⟩; (try first | exact ⟨rfl, _, World.drewN_drewN _ _ _⟩)))
            go_region
            obtain ⟨W3, hW3⟩ : ∃ W3, W3 = (W2.drewN (nd + 1)).setCell ⟨S2, 0, none⟩ (.int .u32 (adrA a (i + 1))) := ⟨_, rfl⟩
            have R4 : Hid (W3.heap[S0]? = some (.cells #[.int .u32 0, .int .i64 0] 34 (0, 0))) := by
              rw [hW3]; exact blk_far (blk_drewN R4'.out _) (show S0 ≠ S2 by have := hsl.out; omega) _
            have R7 : Hid (W3.heap[S1]? = some (.cells #[.int .u32 (bA a (bstT m a (i + 1))), .int .i64 (bB (bstT m a (i + 1)))] 34 (0, 0))) := by
              rw [hW3]; exact blk_far (blk_drewN R7'.out _) (show S1 ≠ S2 by have := hsl.out; omega) _
            have R10 : Hid (W3.heap[S2]? = some (.cells #[.int .u32 (adrA a (i + 1)), .int .i64 i] 34 (0, 0))) := by
              rw [hW3]; exact blk_set (blk_drewN R10'.out _) 0 _
            have HB : Hid (Below S0 w W3) := by
              rw [hW3]; exact (pw_below_drewN HB'.out _).setCell (show S0 ≤ S2 by have := hsl.out; omega) _
            have HT3 := mkHid (G1.out.below (show Below w.heap.size w W3 by rw [← hsl.out.2.2]; exact HB.out))
            rw [hor.out, ← hW3]
            clear hW3 R4' R7' R10' HB' q0 q1 f0 f1 hk0 hk1 HT hor
            have q1 : W3.cell? ⟨S2, 1, none⟩ = some (.int .i64 i) := blk_cell R10.out 1
            have f1 : W3.frozen? ⟨S2, 1, none⟩ = false := blk_frozen R10.out _
            have hk : W3.cell? ⟨blk (wayA a i), 0, none⟩ = some (ptrT D blk (wayA a i ++ [false])) := HT3.out.nodes.kid hD false
            have hwi : IntKind.i64.wrap ((i : Int) + 1) = ((i + 1 : Nat) : Int) := by rw [IntWalk.i64_in _ (by omega)]; omega
            have hpt : ptrT D blk (wayA a i ++ [false]) = ptrT D blk (wayA a (i + 1)) := by rw [wayA, hB]
            rw [hpt] at hk
            clear hpt
            go_wp2_with fail
            go_roundg (gk - 1)
            case measure => omega
            case rel => exact ⟨i + 1, rfl, by omega, by first | (rw [hbst.out]; done) | (rw [hbst.out]; rfl), by first | (rw [hbst.out]; done) | (rw [hbst.out]; rfl), by omega, blk_far R4.out (show S0 ≠ S2 by have := hsl.out; omega) _, blk_far R7.out (show S1 ≠ S2 by have := hsl.out; omega) _, blk_set R10.out 1 _, HB.out.setCell (show S0 ≤ S2 by have := hsl.out; omega) _⟩
          | true =>
            rw [hB] at hbit
            have hor := mkHid (adrA_or1 a i (by omega) h0 h1 hB)
            go_upto_region 13 with fail
            go_upto_region 14 with (first | (go_at_call 45; (with_reducible refine (trie_bit.calls a i ((true.toNat : Nat) : Int) _ hbit.out).mono ?_); rintro e w' ⟨rfl, ⟨nd, rfl⟩⟩; (try first | exact ⟨rfl, _, World.drewN_drewN _ _ _⟩)))
            go_region
            obtain ⟨W3, hW3⟩ : ∃ W3, W3 = (W2.drewN (nd + 1)).setCell ⟨S2, 0, none⟩ (.int .u32 (adrA a (i + 1))) := ⟨_, rfl⟩
            have R4 : Hid (W3.heap[S0]? = some (.cells #[.int .u32 0, .int .i64 0] 34 (0, 0))) := by
              rw [hW3]; exact blk_far (blk_drewN R4'.out _) (show S0 ≠ S2 by have := hsl.out; omega) _
            have R7 : Hid (W3.heap[S1]? = some (.cells #[.int .u32 (bA a (bstT m a (i + 1))), .int .i64 (bB (bstT m a (i + 1)))] 34 (0, 0))) := by
              rw [hW3]; exact blk_far (blk_drewN R7'.out _) (show S1 ≠ S2 by have := hsl.out; omega) _
            have R10 : Hid (W3.heap[S2]? = some (.cells #[.int .u32 (adrA a (i + 1)), .int .i64 i] 34 (0, 0))) := by
              rw [hW3]; exact blk_set (blk_drewN R10'.out _) 0 _
            have HB : Hid (Below S0 w W3) := by
              rw [hW3]; exact (pw_below_drewN HB'.out _).setCell (show S0 ≤ S2 by have := hsl.out; omega) _
            have HT3 := mkHid (G1.out.below (show Below w.heap.size w W3 by rw [← hsl.out.2.2]; exact HB.out))
            rw [hor.out, ← hW3]
            clear hW3 R4' R7' R10' HB' q0 q1 f0 f1 hk0 hk1 HT hor
            have q1 : W3.cell? ⟨S2, 1, none⟩ = some (.int .i64 i) := blk_cell R10.out 1
            have f1 : W3.frozen? ⟨S2, 1, none⟩ = false := blk_frozen R10.out _
            have hk : W3.cell? ⟨blk (wayA a i), 1, none⟩ = some (ptrT D blk (wayA a i ++ [true])) := HT3.out.nodes.kid hD true
            have hwi : IntKind.i64.wrap ((i : Int) + 1) = ((i + 1 : Nat) : Int) := by rw [IntWalk.i64_in _ (by omega)]; omega
            have hpt : ptrT D blk (wayA a i ++ [true]) = ptrT D blk (wayA a (i + 1)) := by rw [wayA, hB]
            rw [hpt] at hk
            clear hpt
            go_wp2_with fail
            go_roundg (gk - 1)
            case measure => omega
            case rel => exact ⟨i + 1, rfl, by omega, by first | (rw [hbst.out]; done) | (rw [hbst.out]; rfl), by first | (rw [hbst.out]; done) | (rw [hbst.out]; rfl), by omega, blk_far R4.out (show S0 ≠ S2 by have := hsl.out; omega) _, blk_far R7.out (show S1 ≠ S2 by have := hsl.out; omega) _, blk_set R10.out 1 _, HB.out.setCell (show S0 ≤ S2 by have := hsl.out; omega) _⟩
end Go.Proofs.Ytnihacajjpcjeaa

end
section
namespace Go.Proofs.Ytnihacajjpcjeaa
open Go.RowKit Go.Proofs.Ytnihacajjpcjeaa.P Go.Proofs.YtnihacajjpcjeaaW.PrintWords Go.Proofs.YtnihacajjpcjeaaW.PrintLast Go.Proofs.YtnihacajjpcjeaaW.PrintMore
set_option linter.unusedVariables false
set_option linter.unusedSimpArgs false

def lM1 : Way → Option Int := putM (fun _ => none) (wayA 167772160 8) (some 1)
def lM2 : Way → Option Int := putM lM1 (wayA 167837696 16) (some 2)
theorem l_bst : bstT lM2 167838211 33 = some (16, 2) := by decide +kernel
theorem l_none1 : ((fun _ => none : Way → Option Int) (wayA 167772160 8)).isSome = false := rfl
theorem l_none2 : (lM1 (wayA 167837696 16)).isSome = false := by decide +kernel
theorem l_adr : adrA 167838211 16 = 167837696 := by decide +kernel
theorem l_may1 : addr_May.f 167772160 ((8 : Nat) : Int) = some true := by decide +kernel
theorem l_may2 : addr_May.f 167837696 ((16 : Nat) : Int) = some true := by decide +kernel

set_option maxHeartbeats 8000000 in
set_option maxRecDepth 100000 in
theorem lives_calls (w : World) : Calls Try.prog 14 #[] w fun e w' => e = .returned (.bool true) ∧ Below w.heap.size w w' := by
  go_enter Try.func14, Try.ntmps14
  go_wp2_with fail
  refine (new_calls w).mono ?_
  rintro e w1 ⟨rfl, hs1, hT1, hB1⟩
  have HT1 := mkHid hT1
  have HB1 := mkHid hB1
  have HS1 : Hid (∀ b, b = w.heap.size → b < w1.heap.size) := fun b h => by omega
  clear hT1 hB1
  go_wp2_with fail
  refine (put_calls w1 w.heap.size _ 0 _ HT1.out 167772160 8 1 (by omega) (by omega) (by omega) (by omega) (by omega) l_may1 1 (by rw [l_none1]; rfl)).mono ?_
  rintro e w2 ⟨rfl, hT2, hK2⟩
  have HT2 := mkHid hT2
  have HB2 : Hid (Below w.heap.size w w2) := HB1.out.trans (hK2.below (B := w.heap.size) HB1.out.size (fun i hi => by omega))
  have hz2 : w1.heap.size ≤ w2.heap.size := hK2.size
  clear hT2 hK2
  go_wp2_with fail
  refine (put_calls w2 w.heap.size _ 1 _ HT2.out 167837696 16 2 (by omega) (by omega) (by omega) (by omega) (by omega) l_may2 2 (by rw [show (putM (fun _ => none) (wayA 167772160 8) (some 1)) (wayA 167837696 16) = lM1 (wayA 167837696 16) from rfl, l_none2]; rfl)).mono ?_
  rintro e w3 ⟨rfl, hT3, hK3⟩
  have HT3 := mkHid hT3
  have HB3 : Hid (Below w.heap.size w w3) := HB2.out.trans (hK3.below (B := w.heap.size) HB2.out.size (fun i hi => by
    rcases hi with h | h
    · omega
    · omega))
  clear hT3 hK3
  go_wp2_with fail
  refine (lng_calls w3 w.heap.size _ 2 _ HT3.out 167838211 (by omega) (by omega)).mono ?_
  rintro e w4 ⟨rfl, hB4⟩
  have HB4 : Hid (Below w.heap.size w w4) := below_step HB3.out (hB4.mono (Nat.le_refl _))
  rw [show putM (putM (fun _ => none) (wayA 167772160 8) (some 1)) (wayA 167837696 16) (some 2) = lM2 from rfl, l_bst]
  rw [show bA 167838211 (some ((16 : Nat), (2 : Int))) = 167837696 from l_adr, show bB (some ((16 : Nat), (2 : Int))) = 16 from rfl, show bV (some ((16 : Nat), (2 : Int))) = 2 from rfl, show (some ((16 : Nat), (2 : Int))).isSome = true from rfl]
  have heq := eqA34 9998 w4
  clear hB4
  go_wp2_with fail
  go_ret
  exact ⟨rfl, HB4.out.alloc HB4.out.size _⟩
end Go.Proofs.Ytnihacajjpcjeaa

end
section
namespace Go.Proofs.Ytnihacajjpcjeaa
open Go.RowKit Go.Proofs.Ytnihacajjpcjeaa.P Go.Proofs.YtnihacajjpcjeaaW.PrintWords Go.Proofs.YtnihacajjpcjeaaW.PrintLast Go.Proofs.YtnihacajjpcjeaaW.PrintMore
set_option linter.unusedVariables false
set_option linter.unusedSimpArgs false

/-- a trie and a plain list of the same values; w0: the world in which all began -/
structure SO (w0 w : World) (bt : Nat) (own : Nat → Prop) (n : Int) (m : Way → Option Int) (v : Value) (l : List S43) : Prop where
  below : Below w0.heap.size w0 w
  tri : Tri kI w bt own n m
  ownb : ∀ b, own b → w0.heap.size ≤ b ∧ b < w.heap.size
  row : Kd.R k43 43 w w0.heap.size (fun _ => True) v l
  dis : ∀ k, v.ownBlock = some k → ¬ own k
  rel : Rel m l
  len : n = l.length
section
variable {w0 w w' : World} {bt : Nat} {own : Nat → Prop} {n : Int} {m : Way → Option Int} {v : Value} {l : List S43}
theorem SO.read (h : SO w0 w bt own n m v l) (hb : Below w.heap.size w w') : SO w0 w' bt own n m v l :=
  ⟨h.below.trans (hb.mono h.below.size), h.tri.below hb, fun b hb' => ⟨(h.ownb b hb').1, Nat.lt_of_lt_of_le (h.ownb b hb').2 hb.size⟩, Kd.R_below h.row hb, h.dis, h.rel, h.len⟩
/-- the trie alone is written -/
theorem SO.wrote (h : SO w0 w bt own n m v l) {n' : Int} {m' : Way → Option Int} {own' : Nat → Prop} (ht : Tri kI w' bt own' n' m') (ho : ∀ b, own' b → own b ∨ (w.heap.size ≤ b ∧ b < w'.heap.size)) (hk : Kb own w w') :
    Below w0.heap.size w0 w' ∧ (∀ b, own' b → w0.heap.size ≤ b ∧ b < w'.heap.size) ∧ Kd.R k43 43 w' w0.heap.size (fun k => some k = v.ownBlock) v l ∧ (∀ k, v.ownBlock = some k → ¬ own' k) := by
  have hsz := h.below.size
  refine ⟨h.below.trans (hk.below hsz (fun i hi => (h.ownb i hi).1)), fun b hb => ?_, ?_, fun k hv hb => ?_⟩
  · rcases ho b hb with h1 | h1
    · exact ⟨(h.ownb b h1).1, Nat.lt_of_lt_of_le (h.ownb b h1).2 hk.size⟩
    · exact ⟨by omega, h1.2⟩
  · exact Kd.R_step (Kd.R_tight rfl h.row) (fun k ho hlt => hk.block k hlt (h.dis k ho.symm))
  · have hlt := Kd.R_lt h.row k hv
    rcases ho k hb with h1 | h1
    · exact h.dis k hv h1
    · omega
end
theorem number_ex (vv : Int) : ∃ x, whirligiglaw06_number.f vv = some x := by
  unfold whirligiglaw06_number.f
  split <;> exact ⟨_, rfl⟩
theorem Evt.two {α β : Type} {f : Nat → Option α} {g : Nat → Option β} {a : α} {b : β} (h : Evt f a) (k : Evt g b) : ∃ n, f n = some a ∧ g n = some b := by
  obtain ⟨K, hK⟩ := h
  obtain ⟨L, hL⟩ := k
  exact ⟨max K L, hK _ (by omega), hL _ (by omega)⟩

set_option maxHeartbeats 8000000 in
set_option maxRecDepth 100000 in
theorem step_else (w : World) (t v : Value) (kd vv a b A : Int) (h0 : kd ≠ 0) (h1 : kd ≠ 1) :
    Calls Try.prog 30 #[t, v, .agg #[.int .i64 kd, .int .i64 vv, .int .u32 a, .int .i64 b, .int .u32 A]] w fun e w' => e = .returned (.tuple #[v, .bool true]) ∧ Below w.heap.size w w' := by
  have c0 : (kd == 0) = false := beq_eq_false_iff_ne.mpr h0
  have c1 : (kd == 1) = false := beq_eq_false_iff_ne.mpr h1
  have HB0 : Hid (Below w.heap.size w (w.alloc (.cells #[.int .i64 kd, .int .i64 vv, .int .u32 a, .int .i64 b, .int .u32 A] 61))) := Below.alloc (Below.refl _ w) (Nat.le_refl _) _
  go_enter Try.func30, Try.ntmps30
  go_wp2_with fail
  go_ret2
  exact ⟨rfl, HB0.out⟩
set_option maxHeartbeats 8000000 in
set_option maxRecDepth 100000 in
theorem step_put_not (w : World) (bt : Nat) (v : Value) (vv a b A : Int) (k : Nat) (hM : addr_May.f a b = some false) (hM2 : whirligigref01_May.f k a b = some false) :
    Calls Try.prog 30 #[.pointer (some ⟨bt, 0, none⟩), v, .agg #[.int .i64 0, .int .i64 vv, .int .u32 a, .int .i64 b, .int .u32 A]] w fun e w' => e = .returned (.tuple #[v, .bool true]) ∧ Below w.heap.size w w' := by
  have HM := mkHid hM
  have HM2 := mkHid hM2
  obtain ⟨x, hx⟩ := number_ex vv
  have HX := mkHid hx
  clear hM hM2 hx
  obtain ⟨W, hW⟩ : ∃ W, W = w.alloc (.cells #[.int .i64 0, .int .i64 vv, .int .u32 a, .int .i64 b, .int .u32 A] 61) := ⟨_, rfl⟩
  have HB : Hid (Below w.heap.size w W) := by rw [hW]; exact Below.alloc (Below.refl _ w) (Nat.le_refl _) _
  have q0 : W.cell? ⟨w.heap.size, 0, none⟩ = some (.int .i64 0) := by rw [hW]; go_simp
  have q1 : W.cell? ⟨w.heap.size, 1, none⟩ = some (.int .i64 vv) := by rw [hW]; go_simp
  have q2 : W.cell? ⟨w.heap.size, 2, none⟩ = some (.int .u32 a) := by rw [hW]; go_simp
  have q3 : W.cell? ⟨w.heap.size, 3, none⟩ = some (.int .i64 b) := by rw [hW]; go_simp
  go_enter Try.func30, Try.ntmps30
  go_upto_region 2 with fail
  rw [← hW]
  clear hW
  go_upto_region 4 with fail
  go_region_held3 (fun w' => w'.cell? ⟨w.heap.size, 1, none⟩ = some (.int .i64 vv) ∧ w'.cell? ⟨w.heap.size, 2, none⟩ = some (.int .u32 a) ∧ w'.cell? ⟨w.heap.size, 3, none⟩ = some (.int .i64 b)) (go_keep)
    (first | (go_at_call 49; refine (whirligiglaw06_number.calls vv x _ HX.out).mono ?_; rintro e w1 ⟨rfl, hd⟩; obtain ⟨nd, rfl⟩ := hd) | (go_at_call 33; refine (put_not _ bt a b x HM.out).mono ?_; rintro e w2 ⟨rfl, hb⟩; have r1 := cell_keep hb (show _ = some (.int .i64 vv) from q1); have r2 := cell_keep hb (show _ = some (.int .u32 a) from q2); have r3 := cell_keep hb (show _ = some (.int .i64 b) from q3)))
  all_goals
    have HB2 := mkHid (below_step (pw_below_drewN HB.out _) hb)
    clear hb q0 q1 q2 q3 r1 HB
    go_wp2_with fail
    refine (whirligigref01_May.calls k a b false _ HM2.out).mono ?_
    rintro e w3 ⟨rfl, hb⟩
    have HB3 := mkHid (below_step HB2.out hb)
    clear hb
    go_wp2_with fail
    go_ret2
    exact ⟨rfl, HB3.out⟩
set_option maxHeartbeats 8000000 in
set_option maxRecDepth 100000 in
theorem step_put (w0 w : World) (bt : Nat) (own : Nat → Prop) (n : Int) (m : Way → Option Int) (v : Value) (l : List S43) (H : SO w0 w bt own n m v l) (vv a b A : Int) (k : Nat) (ha : isA a) (hl : l.length ≤ 100) (hM : addr_May.f a b = some true) (hM2 : whirligigref01_May.f k a b = some true) (x : Int) (hx : whirligiglaw06_number.f vv = some x)
    (l' : List S43) (is : Bool) (hP : whirligigref06_Put.f k l a b x = some (l', is)) (his : (m (wayA a b.toNat)).isSome = is) (hrel : Rel (putM m (wayA a b.toNat) (some x)) l') (hlen : (l'.length : Int) = if is = true then (l.length : Int) else l.length + 1) :
    Calls Try.prog 30 #[.pointer (some ⟨bt, 0, none⟩), v, .agg #[.int .i64 0, .int .i64 vv, .int .u32 a, .int .i64 b, .int .u32 A]] w fun e w' => ∃ (v' : Value) (own' : Nat → Prop) (n' : Int), e = .returned (.tuple #[v', .bool true]) ∧ SO w0 w' bt own' n' (putM m (wayA a b.toNat) (some x)) v' l' := by
  obtain ⟨b0, b1⟩ := may_bits hM
  obtain ⟨N, rfl⟩ : ∃ N : Nat, b = N := ⟨b.toNat, by omega⟩
  have HM := mkHid hM
  have HM2 := mkHid hM2
  have HX := mkHid hx
  have HP := mkHid hP
  have HREL := mkHid hrel
  have HLEN := mkHid hlen
  have HIS := mkHid his
  have hlo := H.len
  have hz := H.below.size
  obtain ⟨W, hW⟩ : ∃ W, W = w.alloc (.cells #[.int .i64 0, .int .i64 vv, .int .u32 a, .int .i64 N, .int .u32 A] 61) := ⟨_, rfl⟩
  have HB : Hid (Below w.heap.size w W) := by rw [hW]; exact Below.alloc (Below.refl _ w) (Nat.le_refl _) _
  have HS : Hid (SO w0 W bt own n m v l) := H.read HB.out
  have HSI : Hid (∀ b, own b → b < w.heap.size) := fun b hb => (H.ownb b hb).2
  have q0 : W.cell? ⟨w.heap.size, 0, none⟩ = some (.int .i64 0) := by rw [hW]; go_simp
  have q1 : W.cell? ⟨w.heap.size, 1, none⟩ = some (.int .i64 vv) := by rw [hW]; go_simp
  have q2 : W.cell? ⟨w.heap.size, 2, none⟩ = some (.int .u32 a) := by rw [hW]; go_simp
  have q3 : W.cell? ⟨w.heap.size, 3, none⟩ = some (.int .i64 N) := by rw [hW]; go_simp
  clear hM hM2 hx hP hrel hlen his H
  go_enter Try.func30, Try.ntmps30
  go_upto_region 2 with fail
  rw [← hW]
  clear hW
  go_upto_region 4 with fail
  have hcall : Hid (∀ i, Calls Try.prog 33 #[.pointer (some ⟨bt, 0, none⟩), .agg #[.int .u32 a, .int .i64 N], .int .i64 x] (W.drewN i) fun e w2 => e = .returned (.tuple #[.bool is, .int .i64 0]) ∧ w2.cell? ⟨w.heap.size, 1, none⟩ = some (.int .i64 vv) ∧ w2.cell? ⟨w.heap.size, 2, none⟩ = some (.int .u32 a) ∧ w2.cell? ⟨w.heap.size, 3, none⟩ = some (.int .i64 N) ∧
      Hid (∃ n' : Int, n' = l'.length ∧ Tri kI w2 bt (ownN own W w2) n' (putM m (wayA a N) (some x)) ∧ Kb own W w2)) := fun i => by
    have hS1 : SO w0 (W.drewN i) bt own n m v l := HS.out.read (pw_below_drewN (Below.refl _ W) _)
    refine (put_calls (W.drewN i) bt own n m hS1.tri a N x ha.1 (by have := ha.2; omega) (by omega) (by omega) (by omega) HM.out (l'.length : Int) (by
      rw [HLEN.out, ← HIS.out, hlo]; rfl)).mono ?_
    rintro e w2 ⟨rfl, g1, g2⟩
    have hno : ¬ own w.heap.size := fun h => absurd (HSI.out _ h) (by omega)
    refine ⟨by rw [show (m (wayA a N)).isSome = is from HIS.out], g2.cell q1 hno, g2.cell q2 hno, g2.cell q3 hno, l'.length, rfl, g1, ⟨g2.os, g2.tape, g2.output, g2.size, g2.block⟩⟩
  clear q0
  go_region_held3 (fun w' => w'.cell? ⟨w.heap.size, 1, none⟩ = some (.int .i64 vv) ∧ w'.cell? ⟨w.heap.size, 2, none⟩ = some (.int .u32 a) ∧ w'.cell? ⟨w.heap.size, 3, none⟩ = some (.int .i64 N)) (go_keep)
    (first | (go_at_call 49; refine (whirligiglaw06_number.calls vv x _ HX.out).mono ?_; rintro e w1 ⟨rfl, hd⟩; obtain ⟨nd, rfl⟩ := hd) | (go_at_call 33; refine (hcall.out _).mono ?_; rintro e w2 ⟨rfl, r1, r2, r3, hput⟩))
  all_goals
    obtain ⟨n', hn', g1, g2⟩ := hput.out
    have HW := mkHid (HS.out.wrote g1 (fun b hb => hb) g2)
    have HTR := mkHid g1
    have HN' := mkHid hn'
    clear hput g1 g2 hn' hcall HS q1 q2 q3
    go_wp2_with fail
    refine (whirligigref01_May.calls k a N true _ HM2.out).mono ?_
    rintro e w3 ⟨rfl, hb⟩
    have s1 := cell_keep hb r1
    have s2 := cell_keep hb r2
    have s3 := cell_keep hb r3
    have HT3 := mkHid (HTR.out.below hb)
    have HR3 := mkHid (Kd.R_below HW.out.2.2.1 hb)
    have HB3 : Hid (Below w0.heap.size w0 w3) := HW.out.1.trans (hb.mono HW.out.1.size)
    have HO3 : Hid (∀ b, ownN own W w2 b → w0.heap.size ≤ b ∧ b < w3.heap.size) := fun b h => ⟨(HW.out.2.1 b h).1, Nat.lt_of_lt_of_le (HW.out.2.1 b h).2 hb.size⟩
    clear hb r1 r2 r3 HTR HW
    go_upto_region 7 with fail
    obtain ⟨A0, c0, hv⟩ := Kd.R_slice HR3.out
    subst hv
    go_region_held3 (fun w' => w'.cell? ⟨w.heap.size, 1, none⟩ = some (.int .i64 vv) ∧ w'.cell? ⟨w.heap.size, 2, none⟩ = some (.int .u32 a) ∧ w'.cell? ⟨w.heap.size, 3, none⟩ = some (.int .i64 N)) (go_keep)
      (first | (go_at_call 49; refine (whirligiglaw06_number.calls vv x _ HX.out).mono ?_; rintro e w1 ⟨rfl, hd⟩; obtain ⟨nd2, rfl⟩ := hd) | (go_at_call 50; refine (whirligigref06_Put.calls k A0 c0 l a N x l' is _ ((Kd.R_reads' (Kd.R_drewN HR3.out _)).2.2) (Kd.R_reads' HR3.out).2.1 HP.out).mono ?_; rintro e w4 ⟨v4, rfl, hR4, hb4⟩; have z1 := cell_keep hb4 (show _ = some (.int .i64 vv) from s1); have z2 := cell_keep hb4 (show _ = some (.int .u32 a) from s2); have z3 := cell_keep hb4 (show _ = some (.int .i64 N) from s3)))
    all_goals
      have HS5 : Hid (SO w0 w4 bt (ownN own W w2) n' (putM m (wayA a N) (some x)) v4 l') := by
        have hz3 := HB3.out.size
        refine ⟨(pw_below_drewN HB3.out _).trans (hb4.mono hz3), (HT3.out.drewN _).below hb4, fun b h => ⟨(HO3.out b h).1, Nat.lt_of_lt_of_le (HO3.out b h).2 hb4.size⟩, Kd.R_lower hR4 hz3, fun k hk ho => ?_, HREL.out, HN'.out⟩
        have h1 := Kd.R_base hR4 k hk
        have h2 := (HO3.out k ho).2
        have h3 : w3.heap.size ≤ k := h1
        omega
      clear hb4 hR4 HB3 HT3 HO3 HR3 z1 z2 z3 s1 s2 s3
      go_wp2_with fail
      go_ret2
      exact ⟨v4, _, n', by first | rfl | simp, HS5.out⟩
set_option maxHeartbeats 8000000 in
set_option maxRecDepth 100000 in
theorem step_drop_not (w : World) (bt : Nat) (v : Value) (vv a b A : Int) (k : Nat) (hM : addr_May.f a b = some false) (hM2 : whirligigref01_May.f k a b = some false) :
    Calls Try.prog 30 #[.pointer (some ⟨bt, 0, none⟩), v, .agg #[.int .i64 1, .int .i64 vv, .int .u32 a, .int .i64 b, .int .u32 A]] w fun e w' => e = .returned (.tuple #[v, .bool true]) ∧ Below w.heap.size w w' := by
  have HM := mkHid hM
  have HM2 := mkHid hM2
  clear hM hM2
  obtain ⟨W, hW⟩ : ∃ W, W = w.alloc (.cells #[.int .i64 1, .int .i64 vv, .int .u32 a, .int .i64 b, .int .u32 A] 61) := ⟨_, rfl⟩
  have HB : Hid (Below w.heap.size w W) := by rw [hW]; exact Below.alloc (Below.refl _ w) (Nat.le_refl _) _
  have q0 : W.cell? ⟨w.heap.size, 0, none⟩ = some (.int .i64 1) := by rw [hW]; go_simp
  have q2 : W.cell? ⟨w.heap.size, 2, none⟩ = some (.int .u32 a) := by rw [hW]; go_simp
  have q3 : W.cell? ⟨w.heap.size, 3, none⟩ = some (.int .i64 b) := by rw [hW]; go_simp
  go_enter Try.func30, Try.ntmps30
  go_upto_region 2 with fail
  rw [← hW]
  clear hW
  go_wp2_with fail
  refine (drop_not _ bt a b HM.out).mono ?_
  rintro e w2 ⟨rfl, hb⟩
  have r2 := cell_keep hb q2
  have r3 := cell_keep hb q3
  have HB2 := mkHid (below_step HB.out hb)
  clear hb q0 q2 q3 HB
  go_wp2_with fail
  refine (whirligigref01_May.calls k a b false _ HM2.out).mono ?_
  rintro e w3 ⟨rfl, hb⟩
  have HB3 := mkHid (below_step HB2.out hb)
  clear hb
  go_wp2_with fail
  go_ret2
  exact ⟨rfl, HB3.out⟩
/-- Drop, whether there is a value or none -/
theorem drop_any (w : World) (bt : Nat) (own : Nat → Prop) (n : Int) (m : Way → Option Int) (hT : Tri kI w bt own n m) (hS : ∀ b, own b → b < w.heap.size) (a : Int) (N : Nat) (h0 : 0 ≤ a) (h1 : a < 4294967296) (b1 : N ≤ 32) (n0 : (m (wayA a N)).isSome = true → 0 < n) (n1 : n < 1000000) (hM : addr_May.f a N = some true) :
    Calls Try.prog 18 #[.pointer (some ⟨bt, 0, none⟩), .agg #[.int .u32 a, .int .i64 N]] w fun e w' => e = .returned (.bool (m (wayA a N)).isSome) ∧ Tri kI w' bt own (if (m (wayA a N)).isSome = true then n - 1 else n) (putM m (wayA a N) none) ∧ Kb own w w' := by
  cases hm : m (wayA a N) with
  | none =>
    refine (drop_none w bt own n m hT a N h0 h1 b1 hM hm).mono ?_
    rintro e w' ⟨rfl, hb⟩
    refine ⟨rfl, ?_, Kb.of_below hb⟩
    have e1 : putM m (wayA a N) none = m := by
      funext π
      by_cases e : π = wayA a N
      · rw [e, putM_self, hm]
      · exact putM_ne e
    rw [e1]
    exact hT.below hb
  | some v =>
    refine (drop_calls w bt own n m hT hS a N h0 h1 b1 (n0 (by rw [hm]; rfl)) n1 hM v hm).mono ?_
    rintro e w' ⟨rfl, h2, h3⟩
    exact ⟨rfl, h2, h3⟩
theorem Tri.kept {V : Type} {K : TK V} {w w' : World} {bt : Nat} {own S : Nat → Prop} {n : Int} {m : Way → Option V} (h : Tri K w bt own n m) (hk : Kept w w' S) (ho : ∀ b, own b → ¬ S b) : Tri K w' bt own n m := by
  obtain ⟨D, blk, h1, h2, h3, h4⟩ := h
  exact ⟨D, blk, ⟨h1.nodes.keep (fun π hp => hk.2 _ (h1.nodes.lt hp) (ho _ (h4 π hp))), (hk.2 _ (blk_lt h1.root) (ho _ h3)).trans h1.root, h1.ne⟩, h2, h3, h4⟩
set_option maxHeartbeats 8000000 in
set_option maxRecDepth 100000 in
theorem step_drop (w0 w : World) (bt : Nat) (own : Nat → Prop) (n : Int) (m : Way → Option Int) (v : Value) (l : List S43) (H : SO w0 w bt own n m v l) (vv a b A : Int) (k : Nat) (ha : isA a) (hl : l.length ≤ 100) (hM : addr_May.f a b = some true) (hM2 : whirligigref01_May.f k a b = some true)
    (l' : List S43) (is : Bool) (hP : whirligigref06_Drop.f k l a b = some (l', is)) (his : (m (wayA a b.toNat)).isSome = is) (hrel : Rel (putM m (wayA a b.toNat) none) l') (hlen : (l.length : Int) = if is = true then (l'.length : Int) + 1 else l'.length) :
    Calls Try.prog 30 #[.pointer (some ⟨bt, 0, none⟩), v, .agg #[.int .i64 1, .int .i64 vv, .int .u32 a, .int .i64 b, .int .u32 A]] w fun e w' => ∃ (v' : Value) (own' : Nat → Prop) (n' : Int), e = .returned (.tuple #[v', .bool true]) ∧ SO w0 w' bt own' n' (putM m (wayA a b.toNat) none) v' l' := by
  obtain ⟨b0, b1⟩ := may_bits hM
  obtain ⟨N, rfl⟩ : ∃ N : Nat, b = N := ⟨b.toNat, by omega⟩
  have HM := mkHid hM
  have HM2 := mkHid hM2
  have HP := mkHid hP
  have HREL := mkHid hrel
  have HLEN := mkHid hlen
  have HIS := mkHid his
  have hlo := H.len
  have hz := H.below.size
  obtain ⟨W, hW⟩ : ∃ W, W = w.alloc (.cells #[.int .i64 1, .int .i64 vv, .int .u32 a, .int .i64 N, .int .u32 A] 61) := ⟨_, rfl⟩
  have HB : Hid (Below w.heap.size w W) := by rw [hW]; exact Below.alloc (Below.refl _ w) (Nat.le_refl _) _
  have HS : Hid (SO w0 W bt own n m v l) := H.read HB.out
  have HSI : Hid (∀ b, own b → b < w.heap.size) := fun b hb => (H.ownb b hb).2
  have q0 : W.cell? ⟨w.heap.size, 0, none⟩ = some (.int .i64 1) := by rw [hW]; go_simp
  have q2 : W.cell? ⟨w.heap.size, 2, none⟩ = some (.int .u32 a) := by rw [hW]; go_simp
  have q3 : W.cell? ⟨w.heap.size, 3, none⟩ = some (.int .i64 N) := by rw [hW]; go_simp
  clear hM hM2 hP hrel hlen his H
  go_enter Try.func30, Try.ntmps30
  go_upto_region 2 with fail
  rw [← hW]
  clear hW
  go_wp2_with fail
  refine (drop_any _ bt own n m HS.out.tri (fun b hb => (HS.out.ownb b hb).2) a N ha.1 (by have := ha.2; omega) (by omega) (fun h => by have := HLEN.out; rw [← HIS.out] at this; rw [hlo, this]; rw [show (m (wayA a ((N : Int)).toNat)).isSome = true from h]; simp <;> omega) (by omega) HM.out).mono ?_
  rintro e w2 ⟨rfl, g1, g2⟩
  have hno : ¬ own w.heap.size := fun h => absurd (HSI.out _ h) (by omega)
  have r2 := g2.cell q2 hno
  have r3 := g2.cell q3 hno
  have HW := mkHid (HS.out.wrote g1 (fun b hb => .inl hb) g2)
  have HTR := mkHid g1
  rw [show (m (wayA a N)).isSome = is from HIS.out]
  clear g1 g2 HS q0 q2 q3 HB hno
  go_wp2_with fail
  refine (whirligigref01_May.calls k a N true _ HM2.out).mono ?_
  rintro e w3 ⟨rfl, hb⟩
  have s2 := cell_keep hb r2
  have s3 := cell_keep hb r3
  have HT3 := mkHid (HTR.out.below hb)
  have HR3 := mkHid (Kd.R_below HW.out.2.2.1 hb)
  have HB3 : Hid (Below w0.heap.size w0 w3) := HW.out.1.trans (hb.mono HW.out.1.size)
  have HO3 : Hid (∀ b, own b → w0.heap.size ≤ b ∧ b < w3.heap.size) := fun b h => ⟨(HW.out.2.1 b h).1, Nat.lt_of_lt_of_le (HW.out.2.1 b h).2 hb.size⟩
  have HD3 : Hid (∀ k, v.ownBlock = some k → ¬ own k) := HW.out.2.2.2
  clear hb r2 r3 HTR HW
  go_wp2_with fail
  refine (whirligigref06_Drop.calls k _ v l a N l' is w0 _ HB3.out HR3.out HP.out).mono ?_
  rintro e w4 ⟨v4, rfl, hR4, hb4, hk4⟩
  have HS5 : Hid (SO w0 w4 bt own (if (m (wayA a N)).isSome = true then n - 1 else n) (putM m (wayA a N) none) v4 l') := by
    refine ⟨hb4, HT3.out.kept hk4 (fun b hb he => HD3.out b he.symm hb), fun b h => ⟨(HO3.out b h).1, Nat.lt_of_lt_of_le (HO3.out b h).2 hk4.1⟩, Kd.R_mono hR4 (fun _ _ => trivial), fun k hk ho => ?_, HREL.out, ?_⟩
    · rcases hR4.1 k hk with h | h
      · exact HD3.out k h.symm ho
      · have := (HO3.out k ho).2; omega
    · have h1 := HLEN.out
      rw [show (m (wayA a N)).isSome = is from HIS.out]
      cases is
      · simp at h1 ⊢; omega
      · simp at h1 ⊢; omega
  clear hR4 hb4 hk4 HB3 HT3 HO3 HR3 HD3 s2 s3
  go_wp2_with fail
  go_ret2
  exact ⟨v4, _, _, by first | rfl | simp, HS5.out⟩
end Go.Proofs.Ytnihacajjpcjeaa

end
section
namespace Go.Proofs.Ytnihacajjpcjeaa
open Go.RowKit Go.Proofs.Ytnihacajjpcjeaa.P Go.Proofs.YtnihacajjpcjeaaW.PrintWords Go.Proofs.YtnihacajjpcjeaaW.PrintLast Go.Proofs.YtnihacajjpcjeaaW.PrintMore
set_option linter.unusedVariables false
set_option linter.unusedSimpArgs false

theorem step_any (w0 w : World) (bt : Nat) (own : Nat → Prop) (n : Int) (m : Way → Option Int) (v : Value) (l : List S43) (H : SO w0 w bt own n m v l) (x : S61) (ha : isA x.f2.f0) (hl : l.length ≤ 90) :
    Calls Try.prog 30 #[.pointer (some ⟨bt, 0, none⟩), v, .agg #[.int .i64 x.f0, .int .i64 x.f1, .int .u32 x.f2.f0, .int .i64 x.f2.f1, .int .u32 x.f3]] w fun e w' => ∃ (v' : Value) (own' : Nat → Prop) (n' : Int) (m' : Way → Option Int) (l' : List S43), e = .returned (.tuple #[v', .bool true]) ∧ SO w0 w' bt own' n' m' v' l' ∧ l'.length ≤ l.length + 1 := by
  obtain ⟨kd, vv, ⟨a, b⟩, A⟩ := x
  simp only at ha ⊢
  have hread : ∀ {f : FuncId} {args : Array Value}, Calls Try.prog f args w (fun e w' => e = .returned (.tuple #[v, .bool true]) ∧ Below w.heap.size w w') → Calls Try.prog f args w fun e w' => ∃ (v' : Value) (own' : Nat → Prop) (n' : Int) (m' : Way → Option Int) (l' : List S43), e = .returned (.tuple #[v', .bool true]) ∧ SO w0 w' bt own' n' m' v' l' ∧ l'.length ≤ l.length + 1 := by
    intro f args h
    refine h.mono ?_
    rintro e w' ⟨rfl, hb⟩
    exact ⟨v, own, n, m, l, rfl, H.read hb, by omega⟩
  obtain ⟨y, hy⟩ := number_ex vv
  cases hm : mayB a b with
  | false =>
    have hM : addr_May.f a b = some false := by rw [may_is _ _ ha, hm]
    obtain ⟨k, hk⟩ := (refMay_ev a b ha).ex
    rw [hm] at hk
    by_cases h0 : kd = 0
    · subst h0; exact hread (step_put_not w bt v vv a b A k hM hk)
    · by_cases h1 : kd = 1
      · subst h1; exact hread (step_drop_not w bt v vv a b A k hM hk)
      · exact hread (step_else w _ v kd vv a b A h0 h1)
  | true =>
    have hM : addr_May.f a b = some true := by rw [may_is _ _ ha, hm]
    have hev := refMay_ev a b ha
    rw [hm] at hev
    obtain ⟨u, t, s1, s2, s3, s4⟩ := atL_spec ⟨a, b⟩ l H.rel.srt
    have hp : okP ⟨a, b⟩ := ⟨ha, hm⟩
    have his := at_mem H.rel hp s2 s3 s4
    by_cases h0 : kd = 0
    · subst h0
      obtain ⟨k, hk1, hk2⟩ := Evt.two hev (put_ev l a b y (by omega) s1 s4)
      have hlen : ((u ++ [(⟨⟨a, b⟩, y⟩ : S43)] ++ t).length : Int) = if (atL ⟨a, b⟩ l).2 = true then (l.length : Int) else l.length + 1 := by
        rcases s4 with ⟨hb, x, hx, h⟩ | ⟨hb, h⟩ <;> rw [hb, h] <;> simp <;> omega
      refine (step_put w0 w bt own n m v l H vv a b A k ha (by omega) hM hk1 y hy _ _ hk2 his (rel_put H.rel hp y s2 s3 s4) hlen).mono ?_
      rintro e w' ⟨v', own', n', rfl, hS⟩
      exact ⟨v', own', n', _, _, rfl, hS, by split at hlen <;> omega⟩
    · by_cases h1 : kd = 1
      · subst h1
        obtain ⟨k, hk1, hk2⟩ := Evt.two hev (drop_ev l a b (by omega) s1 s4)
        have hlen : (l.length : Int) = if (atL ⟨a, b⟩ l).2 = true then ((u ++ t).length : Int) + 1 else (u ++ t).length := by
          rcases s4 with ⟨hb, x, hx, h⟩ | ⟨hb, h⟩ <;> rw [hb, h] <;> simp <;> omega
        refine (step_drop w0 w bt own n m v l H vv a b A k ha (by omega) hM hk1 _ _ hk2 his (rel_drop H.rel hp s2 s3 s4) hlen).mono ?_
        rintro e w' ⟨v', own', n', rfl, hS⟩
        exact ⟨v', own', n', _, _, rfl, hS, by split at hlen <;> omega⟩
      · exact hread (step_else w _ v kd vv a b A h0 h1)

end Go.Proofs.Ytnihacajjpcjeaa

end
section
namespace Go.Proofs.Ytnihacajjpcjeaa
open Go.RowKit Go.Proofs.Ytnihacajjpcjeaa.P Go.Proofs.YtnihacajjpcjeaaW.PrintWords Go.Proofs.YtnihacajjpcjeaaW.PrintLast Go.Proofs.YtnihacajjpcjeaaW.PrintMore
set_option linter.unusedVariables false
set_option linter.unusedSimpArgs false

section
variable {w : World} {bt : Nat} {n : Int} {D : Way → Bool} {m : Way → Option Int} {blk : Way → Nat} {l : List S43}
theorem D_len (hR : Rel m l) (hG : ∀ π, D π = true → ∃ ρ, (m (π ++ ρ)).isSome = true) {π : Way} (hD : D π = true) : π.length ≤ 32 := by
  obtain ⟨ρ, hr⟩ := hG π hD
  obtain ⟨v, hv⟩ := Option.isSome_iff_exists.1 hr
  obtain ⟨x, hx, hw⟩ := hR.all _ v hv
  have := congrArg List.length hw
  unfold wayP at this
  rw [wayA_len, List.length_append] at this
  have := okP_bits (hR.ok x hx).1
  omega
end

end Go.Proofs.Ytnihacajjpcjeaa

end
section
namespace Go.Proofs.Ytnihacajjpcjeaa
open Go.RowKit Go.Proofs.Ytnihacajjpcjeaa.P Go.Proofs.YtnihacajjpcjeaaW.PrintWords Go.Proofs.YtnihacajjpcjeaaW.PrintLast Go.Proofs.YtnihacajjpcjeaaW.PrintMore
set_option linter.unusedVariables false
set_option linter.unusedSimpArgs false

/-- what is done to one after the other, till one says no -/
def runS {σ : Type} (step : σ → S43 → σ × Bool) : σ → List S43 → σ × Bool
  | s, [] => (s, true)
  | s, x :: l => if (step s x).2 = true then runS step (step s x).1 l else ((step s x).1, false)
theorem runS_app {σ : Type} (step : σ → S43 → σ × Bool) : ∀ (a b : List S43) (s : σ), runS step s (a ++ b) = if (runS step s a).2 = true then runS step (runS step s a).1 b else runS step s a := by
  intro a
  induction a with
  | nil => intro b s; simp [runS]
  | cons x a ih =>
    intro b s
    simp only [List.cons_append, runS]
    by_cases h : (step s x).2 = true
    · simp only [h, if_true]; exact ih b _
    · simp [h]
theorem halves_is (π : Way) (h : π.length < 32) : addr_Halves.f (adrW π) (π.length : Int) = some (adrW (π ++ [false]), ((π.length + 1 : Nat) : Int), adrW (π ++ [true]), ((π.length + 1 : Nat) : Int), 0) := by
  have hp : (0 : Int) < 2 ^ (32 - π.length) := Int.pow_pos (by decide)
  have hlt := numW_lt π
  have ha0 : 0 ≤ adrW π := Int.mul_nonneg (by omega) (Int.le_of_lt hp)
  have ha1 : adrW π < 4294967296 := by
    unfold adrW
    have e : (4294967296 : Int) = 2 ^ π.length * 2 ^ (32 - π.length) := by rw [← Int.pow_add, show π.length + (32 - π.length) = 32 by omega]; rfl
    rw [e]
    refine Int.mul_lt_mul_of_pos_right ?_ hp
    have : ((2 ^ π.length : Nat) : Int) = 2 ^ π.length := by simp
    omega
  have hmod : adrW π % 2 ^ (32 - π.length) = 0 := by unfold adrW; exact Int.mul_emod_left _ _
  have hmay : addr_May.f (adrW π) (π.length : Int) = some true := by
    rw [may_is _ _ ⟨ha0, by omega⟩, (mayB_iff _ _).2 ⟨by omega, by omega, by
      unfold un; rw [show (32 - (π.length : Int)).toNat = 32 - π.length by omega]; exact hmod⟩]
  unfold addr_Halves.f addr_halves.f
  have e1 : wrap64 (31 - (π.length : Int)) = ((31 - π.length : Nat) : Int) := by rw [wrap64_in _ (by omega) (by omega)]; omega
  have e2 : wrap64 ((π.length : Int) + 1) = ((π.length + 1 : Nat) : Int) := by rw [wrap64_in _ (by omega) (by omega)]; omega
  have e3 : shl .u32 1 ((31 - π.length : Nat) : Int) = 2 ^ (31 - π.length) := by rw [shl_bit 1 _ (by omega) (.inr rfl), Int.one_mul]
  have e4 : Go.bits .or .u32 (adrW π) (2 ^ (31 - π.length)) = adrW (π ++ [true]) := by
    have := or_add (adrW π) 1 (31 - π.length) (by omega) ha0 ha1 (by rw [show 31 - π.length + 1 = 32 - π.length by omega]; exact hmod) (.inr rfl)
    rw [Int.one_mul] at this
    rw [this, adrW_snoc π true h]; simp
  have e5 : adrW (π ++ [false]) = adrW π := by rw [adrW_snoc π false h]; simp
  rw [hmay, Option.bind_some, if_pos rfl, if_neg (by omega), e1, if_pos (by omega), e2, e3, e4, e5]
  rfl
section
variable (fid : Nat) (cap : Array Value) {σ : Type} (step : σ → S43 → σ × Bool) (Inv : World → (Nat → Prop) → σ → Prop) (cnt : σ → Nat)
/-- what is asked of that which is done -/
structure Does : Prop where
  enters : ∀ (args : Array Value) (W : World), (callFunc fid args).run Try.prog W = .ok (.enter fid args) W
  read : ∀ w w' own s, Inv w own s → Below w.heap.size w w' → Inv w' own s
  lt : ∀ w own s, Inv w own s → ∀ b, own b → b < w.heap.size
  grow : ∀ s x, cnt (step s x).1 ≤ cnt s + 1
  does : ∀ w own s (π : Way) (v : Int), cnt s < 1000 → Inv w own s → Calls Try.prog fid (#[.agg #[.int .u32 (adrW π), .int .i64 (π.length : Int)], .int .i64 v] ++ cap) w fun e w' => ∃ own' : Nat → Prop, e = .returned (.bool (step s ⟨prefW π, v⟩).2) ∧ Inv w' own' (step s ⟨prefW π, v⟩).1 ∧ (∀ b, own' b → own b ∨ w.heap.size ≤ b) ∧ Kb own w w'
end
theorem run_cnt {σ : Type} {step : σ → S43 → σ × Bool} {cnt : σ → Nat} (hg : ∀ s x, cnt (step s x).1 ≤ cnt s + 1) : ∀ (l : List S43) (s : σ), cnt (runS step s l).1 ≤ cnt s + l.length := by
  intro l
  induction l with
  | nil => intro s; exact Nat.le_refl _
  | cons x l ih =>
    intro s
    simp only [runS, List.length_cons]
    have h1 := hg s x
    split
    · have h2 := ih (step s x).1; omega
    · show cnt (step s x).1 ≤ _; omega
theorem TrieAt.kb {V : Type} {K : TK V} {w w' : World} {bt : Nat} {own : Nat → Prop} {n : Int} {D : Way → Bool} {m : Way → Option V} {blk : Way → Nat} (h : TrieAt K w bt n D m blk) (hk : Kb own w w') (ho : ∀ π, D π = true → ¬ own (blk π)) (hb : ¬ own bt) : TrieAt K w' bt n D m blk :=
  ⟨h.nodes.keep (fun π hp => hk.block _ (h.nodes.lt hp) (ho π hp)), (hk.block _ (blk_lt h.root) hb).trans h.root, h.ne⟩

set_option maxHeartbeats 8000000 in
set_option maxRecDepth 100000 in
theorem walk_calls (fid : Nat) (cap : Array Value) {σ : Type} (step : σ → S43 → σ × Bool) (Inv : World → (Nat → Prop) → σ → Prop) (cnt : σ → Nat) (hdo : Does fid cap step Inv cnt)
    (bt : Nat) (n : Int) (D : Way → Bool) (m : Way → Option Int) (blk : Way → Nat) (l : List S43) (hR : Rel m l) (hG : ∀ π, D π = true → ∃ ρ, (m (π ++ ρ)).isSome = true) :
    ∀ (d : Nat) (π : Way), π.length + d = 33 → ∀ (w : World) (own : Nat → Prop) (s : σ), TrieAt kI w bt n D m blk → Inv w own s → (∀ π, D π = true → ¬ own (blk π)) → ¬ own bt → cnt s + (enumW m d π).length ≤ 1000 →
    Calls Try.prog 47 #[ptrT D blk π, .agg #[.int .u32 (adrW π), .int .i64 (π.length : Int)], .func (.func fid) #[] cap] w fun e w' => ∃ own' : Nat → Prop, e = .returned (.bool (runS step s (enumW m d π)).2) ∧ Inv w' own' (runS step s (enumW m d π)).1 ∧ (∀ b, own' b → own b ∨ w.heap.size ≤ b) ∧ Kb own w w' := by
  have HR := mkHid hR
  have HG := mkHid hG
  have HDO := mkHid hdo
  have hen := hdo.enters
  clear hR hG hdo
  intro d
  have hnil : ∀ (d : Nat) (π : Way), D π = false → ∀ (w : World) (own : Nat → Prop) (s : σ), TrieAt kI w bt n D m blk → Inv w own s →
      Calls Try.prog 47 #[ptrT D blk π, .agg #[.int .u32 (adrW π), .int .i64 (π.length : Int)], .func (.func fid) #[] cap] w fun e w' => ∃ own' : Nat → Prop, e = .returned (.bool (runS step s (enumW m d π)).2) ∧ Inv w' own' (runS step s (enumW m d π)).1 ∧ (∀ b, own' b → own b ∨ w.heap.size ≤ b) ∧ Kb own w w' := by
    intro d π hD w own s hT hI
    have he : enumW m d π = [] := by
      cases h : enumW m d π with
      | nil => rfl
      | cons x r =>
        obtain ⟨ρ, _, h2, _⟩ := (enum_mem m d π x).1 (by rw [h]; exact List.mem_cons_self)
        have := hT.nodes.ups ρ π (hT.nodes.sup _ (by rw [h2]; rfl))
        rw [hD] at this; cases this
    rw [he, ptrT_none hD]
    have HB0 : Hid (Below w.heap.size w (w.alloc (.cells #[.int .u32 (adrW π), .int .i64 (π.length : Int)] 34))) := Below.alloc (Below.refl _ w) (Nat.le_refl _) _
    have HI := mkHid hI
    clear hT hI
    go_enter Try.func47, Try.ntmps47
    go_wp2_with fail
    go_ret
    exact ⟨own, rfl, HDO.out.read _ _ _ _ HI.out HB0.out, fun b h => .inl h, Kb.of_below HB0.out⟩
  have HNIL := mkHid hnil
  clear hnil
  induction d with
  | zero =>
    intro π hπ w own s hT hI ho hb _
    have hD : D π = false := by
      cases h : D π with
      | false => rfl
      | true => exact absurd (D_len HR.out HG.out h) (by omega)
    exact HNIL.out 0 π hD w own s hT hI
  | succ d ih =>
    intro π hπ w own s hT hI ho hb hcn
    cases hD : D π with
    | false => exact HNIL.out (d + 1) π hD w own s hT hI
    | true =>
      rw [ptrT_some hD]
      have HT0 := mkHid hT
      have HCN := mkHid hcn
      clear hcn
      have HI0 := mkHid hI
      have hob : Hid (∀ π, D π = true → ¬ own (blk π)) := ho
      have hob1 : Hid (¬ own bt) := hb
      have hltw := mkHid (HDO.out.lt _ _ _ hI)
      have hob2 : Hid (¬ own w.heap.size) := fun h => absurd (hltw.out _ h) (by omega)
      have HB0 : Hid (Below w.heap.size w (w.alloc (.cells #[.int .u32 (adrW π), .int .i64 (π.length : Int)] 34))) := Below.alloc (Below.refl _ w) (Nat.le_refl _) _
      obtain ⟨W, hW⟩ : ∃ W, W = w.alloc (.cells #[.int .u32 (adrW π), .int .i64 (π.length : Int)] 34) := ⟨_, rfl⟩
      have p0 : W.cell? ⟨w.heap.size, 0, none⟩ = some (.int .u32 (adrW π)) := by rw [hW]; go_simp
      have p1 : W.cell? ⟨w.heap.size, 1, none⟩ = some (.int .i64 (π.length : Int)) := by rw [hW]; go_simp
      rw [← hW] at HB0
      have HTW := mkHid (HT0.out.below HB0.out)
      have HIW := mkHid (HDO.out.read _ _ _ _ HI0.out HB0.out)
      have hx2 := HTW.out.nodes.is hD
      have hx3 : W.cell? ⟨blk π, 3, none⟩ = some (.int .i64 ((m π).getD 0)) := HTW.out.nodes.val hD
      have IH := mkHid ih
      clear ih hT hI ho hb
      go_enter Try.func47, Try.ntmps47
      go_upto_region 3 with fail
      rw [← hW]
      clear hW
      cases hm : m π
      case' none =>
        rw [hm] at hx2 hx3
        replace hx2 : W.cell? ⟨blk π, 2, none⟩ = some (.bool false) := hx2
        replace hx3 : W.cell? ⟨blk π, 3, none⟩ = some (.int .i64 0) := hx3
        refine wp_region_held_drew (S := fun w' => w'.cell? ⟨blk π, 2, none⟩ = some (.bool false) ∧ w'.cell? ⟨blk π, 3, none⟩ = some (.int .i64 0) ∧ w'.cell? ⟨w.heap.size, 0, none⟩ = some (.int .u32 (adrW π)) ∧ w'.cell? ⟨w.heap.size, 1, none⟩ = some (.int .i64 (π.length : Int))) (by kernel_rfl) ⟨hx2, hx3, p0, p1⟩ (fun hHeld => ?_)
        refine wpAnyH_take (i := 0) (oi := _) (v := ?_) rfl (by kernel_rfl) (by kernel_rfl) (by kernel_rfl) (fun _ _ _ h => h) (Or.inl ⟨by first | (simp [Region.wanted, yielded]; done) | rfl, ?_⟩) (by assumption) ?_
        rotate_left
        · intro w hSw
          first | (go_simp; done) | (go_simp; with_reducible rfl)
        (try simp only [Act.put, List.getElem_toArray, List.getElem_cons_succ, List.getElem_cons_zero, List.setIfInBounds_toArray, List.set_cons_zero, List.set_cons_succ])
        refine wpAnyH_take (i := 1) (oi := _) (v := ?_) rfl (by kernel_rfl) (by kernel_rfl) (by kernel_rfl) (fun _ _ _ h => h) (Or.inl ⟨by first | (simp [Region.wanted, yielded]; done) | rfl, ?_⟩) (by assumption) ?_
        rotate_left
        · intro w hSw
          first | (go_simp; done) | (go_simp; with_reducible rfl)
        (try simp only [Act.put, List.getElem_toArray, List.getElem_cons_succ, List.getElem_cons_zero, List.setIfInBounds_toArray, List.set_cons_zero, List.set_cons_succ])
        refine wpAnyH_take (i := 2) (oi := _) (v := ?_) rfl (by kernel_rfl) (by kernel_rfl) (by kernel_rfl) (fun _ _ _ h => h) (Or.inl ⟨by first | (simp [Region.wanted, yielded]; done) | rfl, ?_⟩) (by assumption) ?_
        rotate_left
        · intro w hSw
          first | (go_simp; done) | (go_simp; with_reducible rfl)
        (try simp only [Act.put, List.getElem_toArray, List.getElem_cons_succ, List.getElem_cons_zero, List.setIfInBounds_toArray, List.set_cons_zero, List.set_cons_succ])
        refine wpAnyH_take (i := 3) (oi := _) (v := ?_) rfl (by kernel_rfl) (by kernel_rfl) (by kernel_rfl) (fun _ _ _ h => h) (Or.inl ⟨by first | (simp [Region.wanted, yielded]; done) | rfl, ?_⟩) (by assumption) ?_
        rotate_left
        · intro w hSw
          first | (go_simp; done) | (go_simp; with_reducible rfl)
        (try simp only [Act.put, List.getElem_toArray, List.getElem_cons_succ, List.getElem_cons_zero, List.setIfInBounds_toArray, List.set_cons_zero, List.set_cons_succ])
        refine wpAnyH_take (i := 4) (oi := _) (v := ?_) rfl (by kernel_rfl) (by kernel_rfl) (by kernel_rfl) (fun _ _ _ h => h) (Or.inl ⟨by first | (simp [Region.wanted, yielded]; done) | rfl, ?_⟩) (by assumption) ?_
        rotate_left
        · intro w hSw
          first | (go_simp; done) | (go_simp; with_reducible rfl)
        (try simp only [Act.put, List.getElem_toArray, List.getElem_cons_succ, List.getElem_cons_zero, List.setIfInBounds_toArray, List.set_cons_zero, List.set_cons_succ])
        refine wpAnyH_take (i := 5) (oi := _) (v := undef) rfl (by kernel_rfl) (by kernel_rfl) (by kernel_rfl) (fun _ _ _ h => h) (Or.inr ⟨by simp [Region.wanted, yielded], rfl⟩) (by assumption) ?_
        (try simp only [Act.put, List.getElem_toArray, List.getElem_cons_succ, List.getElem_cons_zero, List.setIfInBounds_toArray, List.set_cons_zero, List.set_cons_succ])
        refine wpAnyH_take (i := 6) (oi := _) (v := undef) rfl (by kernel_rfl) (by kernel_rfl) (by kernel_rfl) (fun _ _ _ h => h) (Or.inr ⟨by simp [Region.wanted, yielded], rfl⟩) (by assumption) ?_
        (try simp only [Act.put, List.getElem_toArray, List.getElem_cons_succ, List.getElem_cons_zero, List.setIfInBounds_toArray, List.set_cons_zero, List.set_cons_succ])
        refine wpAnyH_take (i := 7) (oi := _) (v := undef) rfl (by kernel_rfl) (by kernel_rfl) (by kernel_rfl) (fun _ _ _ h => h) (Or.inr ⟨by simp [Region.wanted, yielded], rfl⟩) (by assumption) ?_
        (try simp only [Act.put, List.getElem_toArray, List.getElem_cons_succ, List.getElem_cons_zero, List.setIfInBounds_toArray, List.set_cons_zero, List.set_cons_succ])
        refine wpAnyH_take (i := 8) (oi := _) (v := undef) rfl (by kernel_rfl) (by kernel_rfl) (by kernel_rfl) (fun _ _ _ h => h) (Or.inr ⟨by simp [Region.wanted, yielded], rfl⟩) (by assumption) ?_
        (try simp only [Act.put, List.getElem_toArray, List.getElem_cons_succ, List.getElem_cons_zero, List.setIfInBounds_toArray, List.set_cons_zero, List.set_cons_succ])
        refine wpAnyH_take (i := 9) (oi := _) (v := undef) rfl (by kernel_rfl) (by kernel_rfl) (by kernel_rfl) (fun _ _ _ h => h) (Or.inr ⟨by simp [Region.wanted, yielded], rfl⟩) (by assumption) ?_
        (try simp only [Act.put, List.getElem_toArray, List.getElem_cons_succ, List.getElem_cons_zero, List.setIfInBounds_toArray, List.set_cons_zero, List.set_cons_succ])
        refine wpAnyH_take (i := 10) (oi := _) (v := undef) rfl (by kernel_rfl) (by kernel_rfl) (by kernel_rfl) (fun _ _ _ h => h) (Or.inr ⟨by simp [Region.wanted, yielded], rfl⟩) (by assumption) ?_
        (try simp only [Act.put, List.getElem_toArray, List.getElem_cons_succ, List.getElem_cons_zero, List.setIfInBounds_toArray, List.set_cons_zero, List.set_cons_succ])
        refine wpAnyH_take (i := 11) (oi := _) (v := undef) rfl (by kernel_rfl) (by kernel_rfl) (by kernel_rfl) (fun _ _ _ h => h) (Or.inr ⟨by simp [Region.wanted, yielded], rfl⟩) (by assumption) ?_
        (try simp only [Act.put, List.getElem_toArray, List.getElem_cons_succ, List.getElem_cons_zero, List.setIfInBounds_toArray, List.set_cons_zero, List.set_cons_succ])
        refine wpAnyH_take (i := 12) (oi := _) (v := undef) rfl (by kernel_rfl) (by kernel_rfl) (by kernel_rfl) (fun _ _ _ h => h) (Or.inr ⟨by simp [Region.wanted, yielded], rfl⟩) (by assumption) ?_
        (try simp only [Act.put, List.getElem_toArray, List.getElem_cons_succ, List.getElem_cons_zero, List.setIfInBounds_toArray, List.set_cons_zero, List.set_cons_succ])
        refine wpAnyH_take (i := 13) (oi := _) (v := ?_) rfl (by kernel_rfl) (by kernel_rfl) (by kernel_rfl) (fun _ _ _ h => h) (Or.inl ⟨by first | (simp [Region.wanted, yielded]; done) | rfl, ?_⟩) (by assumption) ?_
        rotate_left
        · intro w hSw
          first | (go_simp; done) | (go_simp; with_reducible rfl)
        (try simp only [Act.put, List.getElem_toArray, List.getElem_cons_succ, List.getElem_cons_zero, List.setIfInBounds_toArray, List.set_cons_zero, List.set_cons_succ])
        refine wpAnyH_done (by kernel_rfl) ?_ _
        go_upto_region 5 with fail
        obtain ⟨w5, hw5⟩ : ∃ w5, w5 = W.drew := ⟨_, rfl⟩
        obtain ⟨own1, hown1⟩ : ∃ own1, own1 = own := ⟨_, rfl⟩
        obtain ⟨s1, hs1⟩ : ∃ s1, s1 = s := ⟨_, rfl⟩
        have HI1 : Hid (Inv w5 own1 s1) := by rw [hw5, hown1, hs1]; exact HDO.out.read _ _ _ _ HIW.out (below_drew (Below.refl _ W))
        have HK1 : Hid (Kb own w w5) := by rw [hw5]; exact Kb.of_below (below_drew HB0.out)
        have HO1 : Hid (∀ b, own1 b → own b ∨ w.heap.size < b) := by rw [hown1]; exact fun b h => .inl h
        have q0 : w5.cell? ⟨w.heap.size, 0, none⟩ = some (.int .u32 (adrW π)) := by rw [hw5]; exact p0
        have q1 : w5.cell? ⟨w.heap.size, 1, none⟩ = some (.int .i64 (π.length : Int)) := by rw [hw5]; exact p1
        have HRUN : Hid (runS step s (enumW m (d + 1) π) = runS step s1 (enumW m d (π ++ [false]) ++ enumW m d (π ++ [true]))) := by unfold Hid; rw [hs1]; simp only [enumW, hm, List.nil_append]
        have HC1 : Hid (cnt s1 + (enumW m d (π ++ [false])).length + (enumW m d (π ++ [true])).length ≤ 1000) := by have := HCN.out; simp only [enumW, hm, List.length_append, List.length_nil] at this; unfold Hid; rw [hs1]; omega
        rw [← hw5]
        clear hw5 hown1 hs1 p0 p1 hx2 hx3 HIW HTW HB0
      case' some v =>
        rw [hm] at hx2 hx3
        replace hx2 : W.cell? ⟨blk π, 2, none⟩ = some (.bool true) := hx2
        replace hx3 : W.cell? ⟨blk π, 3, none⟩ = some (.int .i64 v) := hx3
        have hcall := mkHid (HDO.out.does W.drew own s π v (by have := HCN.out; simp only [enumW, hm, List.length_append, List.length_singleton] at this; omega) (HDO.out.read _ _ _ _ HIW.out (below_drew (Below.refl _ W))))
        refine wp_region_held_drew (S := fun w' => w'.cell? ⟨blk π, 2, none⟩ = some (.bool true) ∧ w'.cell? ⟨blk π, 3, none⟩ = some (.int .i64 v) ∧ w'.cell? ⟨w.heap.size, 0, none⟩ = some (.int .u32 (adrW π)) ∧ w'.cell? ⟨w.heap.size, 1, none⟩ = some (.int .i64 (π.length : Int))) (by kernel_rfl) ⟨hx2, hx3, p0, p1⟩ (fun hHeld => ?_)
        refine wpAnyH_take (i := 0) (oi := _) (v := ?_) rfl (by kernel_rfl) (by kernel_rfl) (by kernel_rfl) (fun _ _ _ h => h) (Or.inl ⟨by first | (simp [Region.wanted, yielded]; done) | rfl, ?_⟩) (by assumption) ?_
        rotate_left
        · intro w hSw
          first | (go_simp; done) | (go_simp; with_reducible rfl)
        (try simp only [Act.put, List.getElem_toArray, List.getElem_cons_succ, List.getElem_cons_zero, List.setIfInBounds_toArray, List.set_cons_zero, List.set_cons_succ])
        refine wpAnyH_take (i := 1) (oi := _) (v := ?_) rfl (by kernel_rfl) (by kernel_rfl) (by kernel_rfl) (fun _ _ _ h => h) (Or.inl ⟨by first | (simp [Region.wanted, yielded]; done) | rfl, ?_⟩) (by assumption) ?_
        rotate_left
        · intro w hSw
          first | (go_simp; done) | (go_simp; with_reducible rfl)
        (try simp only [Act.put, List.getElem_toArray, List.getElem_cons_succ, List.getElem_cons_zero, List.setIfInBounds_toArray, List.set_cons_zero, List.set_cons_succ])
        refine wpAnyH_take (i := 2) (oi := _) (v := ?_) rfl (by kernel_rfl) (by kernel_rfl) (by kernel_rfl) (fun _ _ _ h => h) (Or.inl ⟨by first | (simp [Region.wanted, yielded]; done) | rfl, ?_⟩) (by assumption) ?_
        rotate_left
        · intro w hSw
          first | (go_simp; done) | (go_simp; with_reducible rfl)
        (try simp only [Act.put, List.getElem_toArray, List.getElem_cons_succ, List.getElem_cons_zero, List.setIfInBounds_toArray, List.set_cons_zero, List.set_cons_succ])
        refine wpAnyH_take (i := 3) (oi := _) (v := ?_) rfl (by kernel_rfl) (by kernel_rfl) (by kernel_rfl) (fun _ _ _ h => h) (Or.inl ⟨by first | (simp [Region.wanted, yielded]; done) | rfl, ?_⟩) (by assumption) ?_
        rotate_left
        · intro w hSw
          first | (go_simp; done) | (go_simp; with_reducible rfl)
        (try simp only [Act.put, List.getElem_toArray, List.getElem_cons_succ, List.getElem_cons_zero, List.setIfInBounds_toArray, List.set_cons_zero, List.set_cons_succ])
        refine wpAnyH_take (i := 4) (oi := _) (v := ?_) rfl (by kernel_rfl) (by kernel_rfl) (by kernel_rfl) (fun _ _ _ h => h) (Or.inl ⟨by first | (simp [Region.wanted, yielded]; done) | rfl, ?_⟩) (by assumption) ?_
        rotate_left
        · intro w hSw
          first | (go_simp; done) | (go_simp; with_reducible rfl)
        (try simp only [Act.put, List.getElem_toArray, List.getElem_cons_succ, List.getElem_cons_zero, List.setIfInBounds_toArray, List.set_cons_zero, List.set_cons_succ])
        refine wpAnyH_take (i := 5) (oi := _) (v := ?_) rfl (by kernel_rfl) (by kernel_rfl) (by kernel_rfl) (fun _ _ _ h => h) (Or.inl ⟨by first | (simp [Region.wanted, yielded]; done) | rfl, ?_⟩) (by assumption) ?_
        rotate_left
        · intro w hSw
          first | (go_simp; done) | (go_simp; with_reducible rfl)
        (try simp only [Act.put, List.getElem_toArray, List.getElem_cons_succ, List.getElem_cons_zero, List.setIfInBounds_toArray, List.set_cons_zero, List.set_cons_succ])
        refine wpAnyH_take (i := 6) (oi := _) (v := ?_) rfl (by kernel_rfl) (by kernel_rfl) (by kernel_rfl) (fun _ _ _ h => h) (Or.inl ⟨by first | (simp [Region.wanted, yielded]; done) | rfl, ?_⟩) (by assumption) ?_
        rotate_left
        · intro w hSw
          first | (go_simp; done) | (go_simp; with_reducible rfl)
        (try simp only [Act.put, List.getElem_toArray, List.getElem_cons_succ, List.getElem_cons_zero, List.setIfInBounds_toArray, List.set_cons_zero, List.set_cons_succ])
        refine wpAnyH_take (i := 7) (oi := _) (v := ?_) rfl (by kernel_rfl) (by kernel_rfl) (by kernel_rfl) (fun _ _ _ h => h) (Or.inl ⟨by first | (simp [Region.wanted, yielded]; done) | rfl, ?_⟩) (by assumption) ?_
        rotate_left
        · intro w hSw
          first | (go_simp; done) | (go_simp; with_reducible rfl)
        (try simp only [Act.put, List.getElem_toArray, List.getElem_cons_succ, List.getElem_cons_zero, List.setIfInBounds_toArray, List.set_cons_zero, List.set_cons_succ])
        refine wpAnyH_take (i := 8) (oi := _) (v := ?_) rfl (by kernel_rfl) (by kernel_rfl) (by kernel_rfl) (fun _ _ _ h => h) (Or.inl ⟨by first | (simp [Region.wanted, yielded]; done) | rfl, ?_⟩) (by assumption) ?_
        rotate_left
        · intro w hSw
          first | (go_simp; done) | (go_simp; with_reducible rfl)
        (try simp only [Act.put, List.getElem_toArray, List.getElem_cons_succ, List.getElem_cons_zero, List.setIfInBounds_toArray, List.set_cons_zero, List.set_cons_succ])
        refine wpAnyH_take (i := 9) (oi := _) (v := ?_) rfl (by kernel_rfl) (by kernel_rfl) (by kernel_rfl) (fun _ _ _ h => h) (Or.inl ⟨by first | (simp [Region.wanted, yielded]; done) | rfl, ?_⟩) (by assumption) ?_
        rotate_left
        · intro w hSw
          first | (go_simp; done) | (go_simp; with_reducible rfl)
        (try simp only [Act.put, List.getElem_toArray, List.getElem_cons_succ, List.getElem_cons_zero, List.setIfInBounds_toArray, List.set_cons_zero, List.set_cons_succ])
        refine wpAnyH_take (i := 10) (oi := _) (v := ?_) rfl (by kernel_rfl) (by kernel_rfl) (by kernel_rfl) (fun _ _ _ h => h) (Or.inl ⟨by first | (simp [Region.wanted, yielded]; done) | rfl, ?_⟩) (by assumption) ?_
        rotate_left
        · intro w hSw
          first | (go_simp; done) | (go_simp; with_reducible rfl)
        (try simp only [Act.put, List.getElem_toArray, List.getElem_cons_succ, List.getElem_cons_zero, List.setIfInBounds_toArray, List.set_cons_zero, List.set_cons_succ])
        refine wpAnyH_ready (rs := [11]) (by kernel_rfl) (by simp) (AllReadyH.cons (o := _) rfl (fun K_ hK_ => ?_) AllReadyH.nil)
        go_simp
        (refine hcall.out.mono ?_; rintro e w5 ⟨own1, rfl, hI1, ho1, hk1⟩)
        refine hK_.out _ _ ⟨hk1.cell (show World.cell? _ _ = some (.bool true) from hx2) (hob.out _ hD), hk1.cell (show World.cell? _ _ = some (.int .i64 v) from hx3) (hob.out _ hD), hk1.cell (show World.cell? _ _ = some (.int .u32 (adrW π)) from p0) hob2.out, hk1.cell (show World.cell? _ _ = some (.int .i64 (π.length : Int)) from p1) hob2.out⟩ (fun hHeld => ?_)
        clear hK_ K_
        (try simp only [Act.put, List.getElem_toArray, List.getElem_cons_succ, List.getElem_cons_zero, List.setIfInBounds_toArray, List.set_cons_zero, List.set_cons_succ])
        refine wpAnyH_take (i := 12) (oi := _) (v := ?_) rfl (by kernel_rfl) (by kernel_rfl) (by kernel_rfl) (fun _ _ _ h => h) (Or.inl ⟨by first | (simp [Region.wanted, yielded]; done) | rfl, ?_⟩) (by assumption) ?_
        rotate_left
        · intro w hSw
          first | (go_simp; done) | (go_simp; with_reducible rfl)
        (try simp only [Act.put, List.getElem_toArray, List.getElem_cons_succ, List.getElem_cons_zero, List.setIfInBounds_toArray, List.set_cons_zero, List.set_cons_succ])
        refine wpAnyH_take (i := 13) (oi := _) (v := ?_) rfl (by kernel_rfl) (by kernel_rfl) (by kernel_rfl) (fun _ _ _ h => h) (Or.inl ⟨by first | (simp [Region.wanted, yielded]; done) | rfl, ?_⟩) (by assumption) ?_
        rotate_left
        · intro w hSw
          first | (go_simp; done) | (go_simp; with_reducible rfl)
        (try simp only [Act.put, List.getElem_toArray, List.getElem_cons_succ, List.getElem_cons_zero, List.setIfInBounds_toArray, List.set_cons_zero, List.set_cons_succ])
        refine wpAnyH_done (by kernel_rfl) ?_ _
        have hgr : Hid (∀ b, own1 b → own b ∨ w.heap.size < b) := fun b h => by
          rcases ho1 b h with h1 | h1
          · exact .inl h1
          · have h2 : W.heap.size ≤ b := h1
            have h3 := World.block_lt_of_cell? _ _ p0
            exact .inr (by show w.heap.size < b; simp only at h3; omega)
        have HK1 : Hid (Kb own w w5) := (Kb.of_below (below_drew HB0.out)).trans hk1
        have HI1a := mkHid hI1
        have q0 := hk1.cell (show World.cell? W.drew _ = some (.int .u32 (adrW π)) from p0) hob2.out
        have q1 := hk1.cell (show World.cell? W.drew _ = some (.int .i64 (π.length : Int)) from p1) hob2.out
        cases hbv : (step s ⟨prefW π, v⟩).2
        case' false =>
          have hrun : Hid (runS step s (enumW m (d + 1) π) = ((step s ⟨prefW π, v⟩).1, false)) := by unfold Hid; simp only [enumW, hm, List.cons_append, runS]; rw [hbv]; rfl
          clear hI1 ho1 hk1 p0 p1 hx2 hx3 HIW HTW HB0 hcall q0 q1
          go_wp2_with fail
          go_ret
          exact ⟨own1, by rw [hrun.out]; rfl, by rw [hrun.out]; exact HI1a.out, fun b h => (hgr.out b h).imp id Nat.le_of_lt, HK1.out⟩
        case' true =>
          obtain ⟨s1, hs1⟩ : ∃ s1, s1 = (step s ⟨prefW π, v⟩).1 := ⟨_, rfl⟩
          have HI1 : Hid (Inv w5 own1 s1) := by rw [hs1]; exact hI1
          have HO1 : Hid (∀ b, own1 b → own b ∨ w.heap.size < b) := hgr.out
          have HRUN : Hid (runS step s (enumW m (d + 1) π) = runS step s1 (enumW m d (π ++ [false]) ++ enumW m d (π ++ [true]))) := by unfold Hid; rw [hs1]; simp only [enumW, hm, List.cons_append, List.nil_append, runS]; rw [if_pos hbv]
          have HC1 : Hid (cnt s1 + (enumW m d (π ++ [false])).length + (enumW m d (π ++ [true])).length ≤ 1000) := by have := HCN.out; have g := HDO.out.grow s ⟨prefW π, v⟩; simp only [enumW, hm, List.length_append, List.length_singleton] at this; unfold Hid; rw [hs1]; omega
          clear hI1 ho1 hk1 p0 p1 hx2 hx3 HIW HTW HB0 hcall hgr HI1a hs1 hbv
          go_upto_region 5 with fail
      all_goals
        have HT5 := mkHid (HT0.out.kb HK1.out hob.out hob1.out)
        have hlt5 := mkHid (HDO.out.lt _ _ _ HI1.out)
        by_cases h32 : π.length = 32
        · have e32 : ((π.length : Int) == 32) = true := by rw [h32]; rfl
          have hd0 : d = 0 := by omega
          subst hd0
          go_wp2_with fail
          go_ret
          exact ⟨own1, by rw [HRUN.out]; rfl, by rw [HRUN.out]; exact HI1.out, fun b h => (HO1.out b h).imp id Nat.le_of_lt, HK1.out⟩
        · have e32 : ((π.length : Int) == 32) = false := beq_eq_false_iff_ne.mpr (by omega)
          have hlen33 := D_len HR.out HG.out hD
          obtain ⟨N1, hN1⟩ : ∃ N1 : Int, N1 = ((π.length + 1 : Nat) : Int) := ⟨_, rfl⟩
          have hh := halves_is π (by omega)
          rw [← hN1] at hh
          have HH := mkHid hh
          have HN1 := mkHid hN1
          clear hh hN1
          go_wp2_with fail
          refine (addr_Halves.calls (adrW π) (π.length : Int) _ _ _ _ _ _ HH.out).mono ?_
          rintro e w6 ⟨rfl, hb6⟩
          have HB6 := mkHid hb6
          clear hb6 q0 q1 HH
          go_upto_region 8 with fail
          obtain ⟨S6, hS6⟩ : ∃ S6, S6 = w6.heap.size := ⟨_, rfl⟩
          obtain ⟨S7, hS7⟩ : ∃ S7, S7 = S6 + 1 := ⟨_, rfl⟩
          obtain ⟨W7, hW7⟩ : ∃ W7, W7 = (w6.alloc (.cells #[.int .u32 (adrW (π ++ [false])), .int .i64 N1] 34)).alloc (.cells #[.int .u32 (adrW (π ++ [true])), .int .i64 N1] 34) := ⟨_, rfl⟩
          have HB7 : Hid (Below w5.heap.size w5 W7) := by rw [hW7]; exact below_step HB6.out (((Below.refl w6.heap.size w6).alloc (Nat.le_refl _) _).alloc (by simp) _)
          have r6 : W7.heap[S6]? = some (.cells #[.int .u32 (adrW (π ++ [false])), .int .i64 N1] 34 (0, 0)) := by rw [hW7, hS6]; exact blk_alloc (heap_alloc_new w6 _) _
          have r7 : W7.heap[S7]? = some (.cells #[.int .u32 (adrW (π ++ [true])), .int .i64 N1] 34 (0, 0)) := by
            rw [hW7, hS7, hS6]
            have := heap_alloc_new (w6.alloc (.cells #[.int .u32 (adrW (π ++ [false])), .int .i64 N1] 34)) (.cells #[.int .u32 (adrW (π ++ [true])), .int .i64 N1] 34)
            rw [World.size_alloc] at this
            exact this
          have hsl : Hid (S7 = S6 + 1 ∧ w5.heap.size ≤ S6) := ⟨hS7, by rw [hS6]; exact HB6.out.size⟩
          rw [← hW7, ← hS6, ← hS7]
          clear hW7 hS6 hS7 HB6
          have HT7 := mkHid (HT5.out.below HB7.out)
          have HI7 := mkHid (HDO.out.read _ _ _ _ HI1.out HB7.out)
          have z0 : W7.cell? ⟨blk π, 0, none⟩ = some (ptrT D blk (π ++ [false])) := HT7.out.nodes.kid hD false
          have z1 : W7.cell? ⟨blk π, 1, none⟩ = some (ptrT D blk (π ++ [true])) := HT7.out.nodes.kid hD true
          have z2 : W7.cell? ⟨S6, 0, none⟩ = some (.int .u32 (adrW (π ++ [false]))) := blk_cell r6 0
          have z3 : W7.cell? ⟨S6, 1, none⟩ = some (.int .i64 N1) := blk_cell r6 1
          have z4 : W7.cell? ⟨S7, 0, none⟩ = some (.int .u32 (adrW (π ++ [true]))) := blk_cell r7 0
          have z5 : W7.cell? ⟨S7, 1, none⟩ = some (.int .i64 N1) := blk_cell r7 1
          have hS7W : S7 < W7.heap.size := blk_lt r7
          have hoD1 : Hid (∀ ρ, D ρ = true → ¬ own1 (blk ρ)) := fun ρ hρ h => by
            rcases HO1.out _ h with h1 | h1
            · exact hob.out ρ hρ h1
            · have := HT0.out.nodes.lt hρ; omega
          have hoB1 : Hid (¬ own1 bt) := fun h => by
            rcases HO1.out _ h with h1 | h1
            · exact hob1.out h1
            · have := blk_lt HT0.out.root; omega
          have hnA : Hid (∀ b, (b = blk π ∨ b = S6 ∨ b = S7) → ¬ own1 b) := fun b hb h => by
            have hl := hlt5.out b h
            have hs := hsl.out
            rcases hb with rfl | rfl | rfl
            · exact hoD1.out π hD h
            · omega
            · omega
          have hnC : Hid (∀ own2 : Nat → Prop, (∀ b, own2 b → own1 b ∨ W7.drew.heap.size ≤ b) → ∀ b, (b = blk π ∨ b = S6 ∨ b = S7) → ¬ own2 b) := fun own2 h2 b hb h => by
            rcases h2 b h with h1 | h1
            · exact hnA.out b hb h1
            · have h3 : W7.heap.size ≤ b := h1
              rcases hb with rfl | rfl | rfl
              · have := HT7.out.nodes.lt hD; omega
              · have := hsl.out; omega
              · omega
          have hlF : ∀ b : Bool, ((π ++ [b]).length : Int) = N1 := fun b => by rw [HN1.out, List.length_append]; rfl
          have hcallA : Hid (Calls Try.prog 47 #[ptrT D blk (π ++ [false]), .agg #[.int .u32 (adrW (π ++ [false])), .int .i64 N1], .func (.func fid) #[] cap] W7.drew fun e w' => ∃ own' : Nat → Prop, e = .returned (.bool (runS step s1 (enumW m d (π ++ [false]))).2) ∧ Inv w' own' (runS step s1 (enumW m d (π ++ [false]))).1 ∧ (∀ b, own' b → own1 b ∨ W7.drew.heap.size ≤ b) ∧ Kb own1 W7.drew w') := by
            have := IH.out (π ++ [false]) (by rw [List.length_append]; simp; omega) W7.drew own1 s1 HT7.out.drew (HDO.out.read _ _ _ _ HI7.out (below_drew (Below.refl _ W7))) hoD1.out hoB1.out (by have := HC1.out; omega)
            rw [hlF] at this
            exact this
          have hcallB : Hid (∀ (w8 : World) (own2 : Nat → Prop), Inv w8 own2 (runS step s1 (enumW m d (π ++ [false]))).1 → (∀ b, own2 b → own1 b ∨ W7.drew.heap.size ≤ b) → Kb own1 W7.drew w8 → Calls Try.prog 47 #[ptrT D blk (π ++ [true]), .agg #[.int .u32 (adrW (π ++ [true])), .int .i64 N1], .func (.func fid) #[] cap] w8 fun e w' => ∃ own' : Nat → Prop, e = .returned (.bool (runS step (runS step s1 (enumW m d (π ++ [false]))).1 (enumW m d (π ++ [true]))).2) ∧ Inv w' own' (runS step (runS step s1 (enumW m d (π ++ [false]))).1 (enumW m d (π ++ [true]))).1 ∧ (∀ b, own' b → own2 b ∨ w8.heap.size ≤ b) ∧ Kb own2 w8 w') := fun w8 own2 hi ho hk => by
            have hoD2 : ∀ ρ, D ρ = true → ¬ own2 (blk ρ) := fun ρ hρ h => by
              rcases ho _ h with h1 | h1
              · exact hoD1.out ρ hρ h1
              · have h3 : W7.heap.size ≤ blk ρ := h1
                have := HT7.out.nodes.lt hρ; omega
            have hoB2 : ¬ own2 bt := fun h => by
              rcases ho _ h with h1 | h1
              · exact hoB1.out h1
              · have h3 : W7.heap.size ≤ bt := h1
                have := blk_lt HT7.out.root; omega
            have := IH.out (π ++ [true]) (by rw [List.length_append]; simp; omega) w8 own2 _ (HT7.out.drew.kb hk hoD1.out hoB1.out) hi hoD2 hoB2 (by have g := run_cnt HDO.out.grow (enumW m d (π ++ [false])) s1; have := HC1.out; omega)
            rw [hlF] at this
            exact this
          have HW7 : Hid (w5.heap.size ≤ W7.heap.size) := HB7.out.size
          have HK7 : Hid (Kb own w W7.drew) := (HK1.out.step HB7.out).drewN 1
          clear r6 r7 hlF HT5 hlt5 HI7 hoD1 hoB1 hS7W HI1
          have HRA : Hid (runS step s (enumW m (d + 1) π) = if (runS step s1 (enumW m d (π ++ [false]))).2 = true then runS step (runS step s1 (enumW m d (π ++ [false]))).1 (enumW m d (π ++ [true])) else runS step s1 (enumW m d (π ++ [false]))) := by unfold Hid; rw [HRUN.out, runS_app]
          have HGA : Hid (∀ (own2 : Nat → Prop), (∀ b, own2 b → own1 b ∨ W7.drew.heap.size ≤ b) → ∀ b, own2 b → own b ∨ w.heap.size ≤ b) := fun own2 h2 b hb => by
            rcases h2 b hb with h | h
            · exact (HO1.out b h).imp id Nat.le_of_lt
            · have h3 : W7.heap.size ≤ b := h
              have := HK1.out.size; have := HW7.out; exact .inr (by omega)
          have HKA : Hid (∀ (own2 : Nat → Prop) (w8 : World), Kb own1 W7.drew w8 → Kb own w w8) := fun own2 w8 hk => HK7.out.trans' hk (fun i h => (HO1.out i h).imp id Nat.le_of_lt)
          clear HRUN
          cases hb0 : (runS step s1 (enumW m d (π ++ [false]))).2 with
          | false =>
            rw [hb0] at hcallA
            refine wp_region_held_drew (S := fun w' => w'.cell? ⟨blk π, 0, none⟩ = some (ptrT D blk (π ++ [false])) ∧ w'.cell? ⟨blk π, 1, none⟩ = some (ptrT D blk (π ++ [true])) ∧ w'.cell? ⟨S6, 0, none⟩ = some (.int .u32 (adrW (π ++ [false]))) ∧ w'.cell? ⟨S6, 1, none⟩ = some (.int .i64 N1) ∧ w'.cell? ⟨S7, 0, none⟩ = some (.int .u32 (adrW (π ++ [true]))) ∧ w'.cell? ⟨S7, 1, none⟩ = some (.int .i64 N1)) (by kernel_rfl) ⟨z0, z1, z2, z3, z4, z5⟩ (fun hHeld => ?_)
            refine wpAnyH_take (i := 0) (oi := _) (v := ?_) rfl (by kernel_rfl) (by kernel_rfl) (by kernel_rfl) (fun _ _ _ h => h) (Or.inl ⟨by first | (simp [Region.wanted, yielded]; done) | rfl, ?_⟩) (by assumption) ?_
            rotate_left
            · intro w hSw
              first | (go_simp; done) | (go_simp; with_reducible rfl)
            (try simp only [Act.put, List.getElem_toArray, List.getElem_cons_succ, List.getElem_cons_zero, List.setIfInBounds_toArray, List.set_cons_zero, List.set_cons_succ])
            refine wpAnyH_take (i := 1) (oi := _) (v := ?_) rfl (by kernel_rfl) (by kernel_rfl) (by kernel_rfl) (fun _ _ _ h => h) (Or.inl ⟨by first | (simp [Region.wanted, yielded]; done) | rfl, ?_⟩) (by assumption) ?_
            rotate_left
            · intro w hSw
              first | (go_simp; done) | (go_simp; with_reducible rfl)
            (try simp only [Act.put, List.getElem_toArray, List.getElem_cons_succ, List.getElem_cons_zero, List.setIfInBounds_toArray, List.set_cons_zero, List.set_cons_succ])
            refine wpAnyH_take (i := 2) (oi := _) (v := ?_) rfl (by kernel_rfl) (by kernel_rfl) (by kernel_rfl) (fun _ _ _ h => h) (Or.inl ⟨by first | (simp [Region.wanted, yielded]; done) | rfl, ?_⟩) (by assumption) ?_
            rotate_left
            · intro w hSw
              first | (go_simp; done) | (go_simp; with_reducible rfl)
            (try simp only [Act.put, List.getElem_toArray, List.getElem_cons_succ, List.getElem_cons_zero, List.setIfInBounds_toArray, List.set_cons_zero, List.set_cons_succ])
            refine wpAnyH_take (i := 3) (oi := _) (v := ?_) rfl (by kernel_rfl) (by kernel_rfl) (by kernel_rfl) (fun _ _ _ h => h) (Or.inl ⟨by first | (simp [Region.wanted, yielded]; done) | rfl, ?_⟩) (by assumption) ?_
            rotate_left
            · intro w hSw
              first | (go_simp; done) | (go_simp; with_reducible rfl)
            (try simp only [Act.put, List.getElem_toArray, List.getElem_cons_succ, List.getElem_cons_zero, List.setIfInBounds_toArray, List.set_cons_zero, List.set_cons_succ])
            refine wpAnyH_take (i := 4) (oi := _) (v := ?_) rfl (by kernel_rfl) (by kernel_rfl) (by kernel_rfl) (fun _ _ _ h => h) (Or.inl ⟨by first | (simp [Region.wanted, yielded]; done) | rfl, ?_⟩) (by assumption) ?_
            rotate_left
            · intro w hSw
              first | (go_simp; done) | (go_simp; with_reducible rfl)
            (try simp only [Act.put, List.getElem_toArray, List.getElem_cons_succ, List.getElem_cons_zero, List.setIfInBounds_toArray, List.set_cons_zero, List.set_cons_succ])
            refine wpAnyH_take (i := 5) (oi := _) (v := ?_) rfl (by kernel_rfl) (by kernel_rfl) (by kernel_rfl) (fun _ _ _ h => h) (Or.inl ⟨by first | (simp [Region.wanted, yielded]; done) | rfl, ?_⟩) (by assumption) ?_
            rotate_left
            · intro w hSw
              first | (go_simp; done) | (go_simp; with_reducible rfl)
            (try simp only [Act.put, List.getElem_toArray, List.getElem_cons_succ, List.getElem_cons_zero, List.setIfInBounds_toArray, List.set_cons_zero, List.set_cons_succ])
            refine wpAnyH_take (i := 6) (oi := _) (v := ?_) rfl (by kernel_rfl) (by kernel_rfl) (by kernel_rfl) (fun _ _ _ h => h) (Or.inl ⟨by first | (simp [Region.wanted, yielded]; done) | rfl, ?_⟩) (by assumption) ?_
            rotate_left
            · intro w hSw
              first | (go_simp; done) | (go_simp; with_reducible rfl)
            (try simp only [Act.put, List.getElem_toArray, List.getElem_cons_succ, List.getElem_cons_zero, List.setIfInBounds_toArray, List.set_cons_zero, List.set_cons_succ])
            refine wpAnyH_ready (rs := [7]) (by kernel_rfl) (by simp) (AllReadyH.cons (o := _) rfl (fun K_ hK_ => ?_) AllReadyH.nil)
            go_simp
            (refine hcallA.out.mono ?_; rintro e w8 ⟨own2, rfl, hI2, ho2, hk2⟩)
            refine hK_.out _ _ ⟨hk2.cell (show World.cell? _ _ = some (ptrT D blk (π ++ [false])) from z0) (hnA.out _ (.inl rfl)), hk2.cell (show World.cell? _ _ = some (ptrT D blk (π ++ [true])) from z1) (hnA.out _ (.inl rfl)), hk2.cell (show World.cell? _ _ = some (.int .u32 (adrW (π ++ [false]))) from z2) (hnA.out _ (.inr (.inl rfl))), hk2.cell (show World.cell? _ _ = some (.int .i64 N1) from z3) (hnA.out _ (.inr (.inl rfl))), hk2.cell (show World.cell? _ _ = some (.int .u32 (adrW (π ++ [true]))) from z4) (hnA.out _ (.inr (.inr rfl))), hk2.cell (show World.cell? _ _ = some (.int .i64 N1) from z5) (hnA.out _ (.inr (.inr rfl)))⟩ (fun hHeld => ?_)
            clear hK_ K_
            (try simp only [Act.put, List.getElem_toArray, List.getElem_cons_succ, List.getElem_cons_zero, List.setIfInBounds_toArray, List.set_cons_zero, List.set_cons_succ])
            refine wpAnyH_take (i := 8) (oi := _) (v := ?_) rfl (by kernel_rfl) (by kernel_rfl) (by kernel_rfl) (fun _ _ _ h => h) (Or.inl ⟨by first | (simp [Region.wanted, yielded]; done) | rfl, ?_⟩) (by assumption) ?_
            rotate_left
            · intro w hSw
              first | (go_simp; done) | (go_simp; with_reducible rfl)
            (try simp only [Act.put, List.getElem_toArray, List.getElem_cons_succ, List.getElem_cons_zero, List.setIfInBounds_toArray, List.set_cons_zero, List.set_cons_succ])
            refine wpAnyH_take (i := 9) (oi := _) (v := undef) rfl (by kernel_rfl) (by kernel_rfl) (by kernel_rfl) (fun _ _ _ h => h) (Or.inr ⟨by simp [Region.wanted, yielded], rfl⟩) (by assumption) ?_
            (try simp only [Act.put, List.getElem_toArray, List.getElem_cons_succ, List.getElem_cons_zero, List.setIfInBounds_toArray, List.set_cons_zero, List.set_cons_succ])
            refine wpAnyH_take (i := 10) (oi := _) (v := undef) rfl (by kernel_rfl) (by kernel_rfl) (by kernel_rfl) (fun _ _ _ h => h) (Or.inr ⟨by simp [Region.wanted, yielded], rfl⟩) (by assumption) ?_
            (try simp only [Act.put, List.getElem_toArray, List.getElem_cons_succ, List.getElem_cons_zero, List.setIfInBounds_toArray, List.set_cons_zero, List.set_cons_succ])
            refine wpAnyH_take (i := 11) (oi := _) (v := undef) rfl (by kernel_rfl) (by kernel_rfl) (by kernel_rfl) (fun _ _ _ h => h) (Or.inr ⟨by simp [Region.wanted, yielded], rfl⟩) (by assumption) ?_
            (try simp only [Act.put, List.getElem_toArray, List.getElem_cons_succ, List.getElem_cons_zero, List.setIfInBounds_toArray, List.set_cons_zero, List.set_cons_succ])
            refine wpAnyH_take (i := 12) (oi := _) (v := undef) rfl (by kernel_rfl) (by kernel_rfl) (by kernel_rfl) (fun _ _ _ h => h) (Or.inr ⟨by simp [Region.wanted, yielded], rfl⟩) (by assumption) ?_
            (try simp only [Act.put, List.getElem_toArray, List.getElem_cons_succ, List.getElem_cons_zero, List.setIfInBounds_toArray, List.set_cons_zero, List.set_cons_succ])
            refine wpAnyH_take (i := 13) (oi := _) (v := undef) rfl (by kernel_rfl) (by kernel_rfl) (by kernel_rfl) (fun _ _ _ h => h) (Or.inr ⟨by simp [Region.wanted, yielded], rfl⟩) (by assumption) ?_
            (try simp only [Act.put, List.getElem_toArray, List.getElem_cons_succ, List.getElem_cons_zero, List.setIfInBounds_toArray, List.set_cons_zero, List.set_cons_succ])
            refine wpAnyH_take (i := 14) (oi := _) (v := undef) rfl (by kernel_rfl) (by kernel_rfl) (by kernel_rfl) (fun _ _ _ h => h) (Or.inr ⟨by simp [Region.wanted, yielded], rfl⟩) (by assumption) ?_
            (try simp only [Act.put, List.getElem_toArray, List.getElem_cons_succ, List.getElem_cons_zero, List.setIfInBounds_toArray, List.set_cons_zero, List.set_cons_succ])
            refine wpAnyH_take (i := 15) (oi := _) (v := undef) rfl (by kernel_rfl) (by kernel_rfl) (by kernel_rfl) (fun _ _ _ h => h) (Or.inr ⟨by simp [Region.wanted, yielded], rfl⟩) (by assumption) ?_
            (try simp only [Act.put, List.getElem_toArray, List.getElem_cons_succ, List.getElem_cons_zero, List.setIfInBounds_toArray, List.set_cons_zero, List.set_cons_succ])
            refine wpAnyH_take (i := 16) (oi := _) (v := undef) rfl (by kernel_rfl) (by kernel_rfl) (by kernel_rfl) (fun _ _ _ h => h) (Or.inr ⟨by simp [Region.wanted, yielded], rfl⟩) (by assumption) ?_
            (try simp only [Act.put, List.getElem_toArray, List.getElem_cons_succ, List.getElem_cons_zero, List.setIfInBounds_toArray, List.set_cons_zero, List.set_cons_succ])
            refine wpAnyH_take (i := 17) (oi := _) (v := ?_) rfl (by kernel_rfl) (by kernel_rfl) (by kernel_rfl) (fun _ _ _ h => h) (Or.inl ⟨by first | (simp [Region.wanted, yielded]; done) | rfl, ?_⟩) (by assumption) ?_
            rotate_left
            · intro w hSw
              first | (go_simp; done) | (go_simp; with_reducible rfl)
            (try simp only [Act.put, List.getElem_toArray, List.getElem_cons_succ, List.getElem_cons_zero, List.setIfInBounds_toArray, List.set_cons_zero, List.set_cons_succ])
            refine wpAnyH_take (i := 18) (oi := _) (v := ?_) rfl (by kernel_rfl) (by kernel_rfl) (by kernel_rfl) (fun _ _ _ h => h) (Or.inl ⟨by first | (simp [Region.wanted, yielded]; done) | rfl, ?_⟩) (by assumption) ?_
            rotate_left
            · intro w hSw
              first | (go_simp; done) | (go_simp; with_reducible rfl)
            (try simp only [Act.put, List.getElem_toArray, List.getElem_cons_succ, List.getElem_cons_zero, List.setIfInBounds_toArray, List.set_cons_zero, List.set_cons_succ])
            refine wpAnyH_done (by kernel_rfl) ?_ _
            have HI2 := mkHid hI2
            have HGF := mkHid (HGA.out own2 ho2)
            have HKF := mkHid (HKA.out own2 w8 hk2)
            clear hI2 ho2 hk2 hcallA hcallB z0 z1 z2 z3 z4 z5
            go_wp2_with fail
            go_ret
            exact ⟨own2, by rw [HRA.out, if_neg (by rw [hb0]; simp), hb0]; rfl, by rw [HRA.out, if_neg (by rw [hb0]; simp)]; exact HI2.out, HGF.out, HKF.out⟩
          | true =>
            rw [hb0] at hcallA
            refine wp_region_held_drew (S := fun w' => w'.cell? ⟨blk π, 0, none⟩ = some (ptrT D blk (π ++ [false])) ∧ w'.cell? ⟨blk π, 1, none⟩ = some (ptrT D blk (π ++ [true])) ∧ w'.cell? ⟨S6, 0, none⟩ = some (.int .u32 (adrW (π ++ [false]))) ∧ w'.cell? ⟨S6, 1, none⟩ = some (.int .i64 N1) ∧ w'.cell? ⟨S7, 0, none⟩ = some (.int .u32 (adrW (π ++ [true]))) ∧ w'.cell? ⟨S7, 1, none⟩ = some (.int .i64 N1)) (by kernel_rfl) ⟨z0, z1, z2, z3, z4, z5⟩ (fun hHeld => ?_)
            refine wpAnyH_take (i := 0) (oi := _) (v := ?_) rfl (by kernel_rfl) (by kernel_rfl) (by kernel_rfl) (fun _ _ _ h => h) (Or.inl ⟨by first | (simp [Region.wanted, yielded]; done) | rfl, ?_⟩) (by assumption) ?_
            rotate_left
            · intro w hSw
              first | (go_simp; done) | (go_simp; with_reducible rfl)
            (try simp only [Act.put, List.getElem_toArray, List.getElem_cons_succ, List.getElem_cons_zero, List.setIfInBounds_toArray, List.set_cons_zero, List.set_cons_succ])
            refine wpAnyH_take (i := 1) (oi := _) (v := ?_) rfl (by kernel_rfl) (by kernel_rfl) (by kernel_rfl) (fun _ _ _ h => h) (Or.inl ⟨by first | (simp [Region.wanted, yielded]; done) | rfl, ?_⟩) (by assumption) ?_
            rotate_left
            · intro w hSw
              first | (go_simp; done) | (go_simp; with_reducible rfl)
            (try simp only [Act.put, List.getElem_toArray, List.getElem_cons_succ, List.getElem_cons_zero, List.setIfInBounds_toArray, List.set_cons_zero, List.set_cons_succ])
            refine wpAnyH_take (i := 2) (oi := _) (v := ?_) rfl (by kernel_rfl) (by kernel_rfl) (by kernel_rfl) (fun _ _ _ h => h) (Or.inl ⟨by first | (simp [Region.wanted, yielded]; done) | rfl, ?_⟩) (by assumption) ?_
            rotate_left
            · intro w hSw
              first | (go_simp; done) | (go_simp; with_reducible rfl)
            (try simp only [Act.put, List.getElem_toArray, List.getElem_cons_succ, List.getElem_cons_zero, List.setIfInBounds_toArray, List.set_cons_zero, List.set_cons_succ])
            refine wpAnyH_take (i := 3) (oi := _) (v := ?_) rfl (by kernel_rfl) (by kernel_rfl) (by kernel_rfl) (fun _ _ _ h => h) (Or.inl ⟨by first | (simp [Region.wanted, yielded]; done) | rfl, ?_⟩) (by assumption) ?_
            rotate_left
            · intro w hSw
              first | (go_simp; done) | (go_simp; with_reducible rfl)
            (try simp only [Act.put, List.getElem_toArray, List.getElem_cons_succ, List.getElem_cons_zero, List.setIfInBounds_toArray, List.set_cons_zero, List.set_cons_succ])
            refine wpAnyH_take (i := 4) (oi := _) (v := ?_) rfl (by kernel_rfl) (by kernel_rfl) (by kernel_rfl) (fun _ _ _ h => h) (Or.inl ⟨by first | (simp [Region.wanted, yielded]; done) | rfl, ?_⟩) (by assumption) ?_
            rotate_left
            · intro w hSw
              first | (go_simp; done) | (go_simp; with_reducible rfl)
            (try simp only [Act.put, List.getElem_toArray, List.getElem_cons_succ, List.getElem_cons_zero, List.setIfInBounds_toArray, List.set_cons_zero, List.set_cons_succ])
            refine wpAnyH_take (i := 5) (oi := _) (v := ?_) rfl (by kernel_rfl) (by kernel_rfl) (by kernel_rfl) (fun _ _ _ h => h) (Or.inl ⟨by first | (simp [Region.wanted, yielded]; done) | rfl, ?_⟩) (by assumption) ?_
            rotate_left
            · intro w hSw
              first | (go_simp; done) | (go_simp; with_reducible rfl)
            (try simp only [Act.put, List.getElem_toArray, List.getElem_cons_succ, List.getElem_cons_zero, List.setIfInBounds_toArray, List.set_cons_zero, List.set_cons_succ])
            refine wpAnyH_take (i := 6) (oi := _) (v := ?_) rfl (by kernel_rfl) (by kernel_rfl) (by kernel_rfl) (fun _ _ _ h => h) (Or.inl ⟨by first | (simp [Region.wanted, yielded]; done) | rfl, ?_⟩) (by assumption) ?_
            rotate_left
            · intro w hSw
              first | (go_simp; done) | (go_simp; with_reducible rfl)
            (try simp only [Act.put, List.getElem_toArray, List.getElem_cons_succ, List.getElem_cons_zero, List.setIfInBounds_toArray, List.set_cons_zero, List.set_cons_succ])
            refine wpAnyH_ready (rs := [7]) (by kernel_rfl) (by simp) (AllReadyH.cons (o := _) rfl (fun K_ hK_ => ?_) AllReadyH.nil)
            go_simp
            (refine hcallA.out.mono ?_; rintro e w8 ⟨own2, rfl, hI2, ho2, hk2⟩; have y0 := hk2.cell (show World.cell? W7.drew _ = some (ptrT D blk (π ++ [false])) from z0) (hnA.out _ (.inl rfl)); have y1 := hk2.cell (show World.cell? W7.drew _ = some (ptrT D blk (π ++ [true])) from z1) (hnA.out _ (.inl rfl)); have y2 := hk2.cell (show World.cell? W7.drew _ = some (.int .u32 (adrW (π ++ [false]))) from z2) (hnA.out _ (.inr (.inl rfl))); have y3 := hk2.cell (show World.cell? W7.drew _ = some (.int .i64 N1) from z3) (hnA.out _ (.inr (.inl rfl))); have y4 := hk2.cell (show World.cell? W7.drew _ = some (.int .u32 (adrW (π ++ [true]))) from z4) (hnA.out _ (.inr (.inr rfl))); have y5 := hk2.cell (show World.cell? W7.drew _ = some (.int .i64 N1) from z5) (hnA.out _ (.inr (.inr rfl))); have hnB := hnC.out own2 ho2)
            refine hK_.out _ _ ⟨y0, y1, y2, y3, y4, y5⟩ (fun hHeld => ?_)
            clear hK_ K_
            (try simp only [Act.put, List.getElem_toArray, List.getElem_cons_succ, List.getElem_cons_zero, List.setIfInBounds_toArray, List.set_cons_zero, List.set_cons_succ])
            refine wpAnyH_take (i := 8) (oi := _) (v := ?_) rfl (by kernel_rfl) (by kernel_rfl) (by kernel_rfl) (fun _ _ _ h => h) (Or.inl ⟨by first | (simp [Region.wanted, yielded]; done) | rfl, ?_⟩) (by assumption) ?_
            rotate_left
            · intro w hSw
              first | (go_simp; done) | (go_simp; with_reducible rfl)
            (try simp only [Act.put, List.getElem_toArray, List.getElem_cons_succ, List.getElem_cons_zero, List.setIfInBounds_toArray, List.set_cons_zero, List.set_cons_succ])
            refine wpAnyH_take (i := 9) (oi := _) (v := ?_) rfl (by kernel_rfl) (by kernel_rfl) (by kernel_rfl) (fun _ _ _ h => h) (Or.inl ⟨by first | (simp [Region.wanted, yielded]; done) | rfl, ?_⟩) (by assumption) ?_
            rotate_left
            · intro w hSw
              first | (go_simp; done) | (go_simp; with_reducible rfl)
            (try simp only [Act.put, List.getElem_toArray, List.getElem_cons_succ, List.getElem_cons_zero, List.setIfInBounds_toArray, List.set_cons_zero, List.set_cons_succ])
            refine wpAnyH_take (i := 10) (oi := _) (v := ?_) rfl (by kernel_rfl) (by kernel_rfl) (by kernel_rfl) (fun _ _ _ h => h) (Or.inl ⟨by first | (simp [Region.wanted, yielded]; done) | rfl, ?_⟩) (by assumption) ?_
            rotate_left
            · intro w hSw
              first | (go_simp; done) | (go_simp; with_reducible rfl)
            (try simp only [Act.put, List.getElem_toArray, List.getElem_cons_succ, List.getElem_cons_zero, List.setIfInBounds_toArray, List.set_cons_zero, List.set_cons_succ])
            refine wpAnyH_take (i := 11) (oi := _) (v := ?_) rfl (by kernel_rfl) (by kernel_rfl) (by kernel_rfl) (fun _ _ _ h => h) (Or.inl ⟨by first | (simp [Region.wanted, yielded]; done) | rfl, ?_⟩) (by assumption) ?_
            rotate_left
            · intro w hSw
              first | (go_simp; done) | (go_simp; with_reducible rfl)
            (try simp only [Act.put, List.getElem_toArray, List.getElem_cons_succ, List.getElem_cons_zero, List.setIfInBounds_toArray, List.set_cons_zero, List.set_cons_succ])
            refine wpAnyH_take (i := 12) (oi := _) (v := ?_) rfl (by kernel_rfl) (by kernel_rfl) (by kernel_rfl) (fun _ _ _ h => h) (Or.inl ⟨by first | (simp [Region.wanted, yielded]; done) | rfl, ?_⟩) (by assumption) ?_
            rotate_left
            · intro w hSw
              first | (go_simp; done) | (go_simp; with_reducible rfl)
            (try simp only [Act.put, List.getElem_toArray, List.getElem_cons_succ, List.getElem_cons_zero, List.setIfInBounds_toArray, List.set_cons_zero, List.set_cons_succ])
            refine wpAnyH_take (i := 13) (oi := _) (v := ?_) rfl (by kernel_rfl) (by kernel_rfl) (by kernel_rfl) (fun _ _ _ h => h) (Or.inl ⟨by first | (simp [Region.wanted, yielded]; done) | rfl, ?_⟩) (by assumption) ?_
            rotate_left
            · intro w hSw
              first | (go_simp; done) | (go_simp; with_reducible rfl)
            (try simp only [Act.put, List.getElem_toArray, List.getElem_cons_succ, List.getElem_cons_zero, List.setIfInBounds_toArray, List.set_cons_zero, List.set_cons_succ])
            refine wpAnyH_take (i := 14) (oi := _) (v := ?_) rfl (by kernel_rfl) (by kernel_rfl) (by kernel_rfl) (fun _ _ _ h => h) (Or.inl ⟨by first | (simp [Region.wanted, yielded]; done) | rfl, ?_⟩) (by assumption) ?_
            rotate_left
            · intro w hSw
              first | (go_simp; done) | (go_simp; with_reducible rfl)
            (try simp only [Act.put, List.getElem_toArray, List.getElem_cons_succ, List.getElem_cons_zero, List.setIfInBounds_toArray, List.set_cons_zero, List.set_cons_succ])
            refine wpAnyH_take (i := 15) (oi := _) (v := ?_) rfl (by kernel_rfl) (by kernel_rfl) (by kernel_rfl) (fun _ _ _ h => h) (Or.inl ⟨by first | (simp [Region.wanted, yielded]; done) | rfl, ?_⟩) (by assumption) ?_
            rotate_left
            · intro w hSw
              first | (go_simp; done) | (go_simp; with_reducible rfl)
            (try simp only [Act.put, List.getElem_toArray, List.getElem_cons_succ, List.getElem_cons_zero, List.setIfInBounds_toArray, List.set_cons_zero, List.set_cons_succ])
            refine wpAnyH_ready (rs := [16]) (by kernel_rfl) (by simp) (AllReadyH.cons (o := _) rfl (fun K_ hK_ => ?_) AllReadyH.nil)
            go_simp
            (refine (hcallB.out w8 own2 hI2 ho2 hk2).mono ?_; rintro e w9 ⟨own3, rfl, hI3, ho3, hk3⟩)
            refine hK_.out _ _ ⟨hk3.cell y0 (hnB _ (.inl rfl)), hk3.cell y1 (hnB _ (.inl rfl)), hk3.cell y2 (hnB _ (.inr (.inl rfl))), hk3.cell y3 (hnB _ (.inr (.inl rfl))), hk3.cell y4 (hnB _ (.inr (.inr rfl))), hk3.cell y5 (hnB _ (.inr (.inr rfl)))⟩ (fun hHeld => ?_)
            clear hK_ K_
            (try simp only [Act.put, List.getElem_toArray, List.getElem_cons_succ, List.getElem_cons_zero, List.setIfInBounds_toArray, List.set_cons_zero, List.set_cons_succ])
            refine wpAnyH_take (i := 17) (oi := _) (v := ?_) rfl (by kernel_rfl) (by kernel_rfl) (by kernel_rfl) (fun _ _ _ h => h) (Or.inl ⟨by first | (simp [Region.wanted, yielded]; done) | rfl, ?_⟩) (by assumption) ?_
            rotate_left
            · intro w hSw
              first | (go_simp; done) | (go_simp; with_reducible rfl)
            (try simp only [Act.put, List.getElem_toArray, List.getElem_cons_succ, List.getElem_cons_zero, List.setIfInBounds_toArray, List.set_cons_zero, List.set_cons_succ])
            refine wpAnyH_take (i := 18) (oi := _) (v := ?_) rfl (by kernel_rfl) (by kernel_rfl) (by kernel_rfl) (fun _ _ _ h => h) (Or.inl ⟨by first | (simp [Region.wanted, yielded]; done) | rfl, ?_⟩) (by assumption) ?_
            rotate_left
            · intro w hSw
              first | (go_simp; done) | (go_simp; with_reducible rfl)
            (try simp only [Act.put, List.getElem_toArray, List.getElem_cons_succ, List.getElem_cons_zero, List.setIfInBounds_toArray, List.set_cons_zero, List.set_cons_succ])
            refine wpAnyH_done (by kernel_rfl) ?_ _
            have HI3 := mkHid hI3
            have HGF : Hid (∀ b, own3 b → own b ∨ w.heap.size ≤ b) := fun b h => by
              rcases ho3 b h with h1 | h1
              · exact HGA.out own2 ho2 b h1
              · have := (HKA.out own2 w8 hk2).size; exact .inr (by omega)
            have HKF : Hid (Kb own w w9) := (HKA.out own2 w8 hk2).trans' hk3 (HGA.out own2 ho2)
            clear hI2 hI3 ho2 ho3 hk2 hk3 hcallA hcallB z0 z1 z2 z3 z4 z5 y0 y1 y2 y3 y4 y5 hnB
            go_wp2_with fail
            go_ret
            exact ⟨own3, by rw [HRA.out, if_pos hb0]; rfl, by rw [HRA.out, if_pos hb0]; exact HI3.out, HGF.out, HKF.out⟩
end Go.Proofs.Ytnihacajjpcjeaa

end
