/- Part of the proof of RowTrieFolds: what it asks of functions, words and plain facts (put together by this session's own program, wip/tools/shake.py). -/
import Derived.Test.YtnihacajjpcjeaaZTrieFolds0
import Derived.Test.YtnihacajjpcjeaaZTrieFolds1
import Derived.Test.YtnihacajjpcjeaaZTrieFolds2
import Derived.Test.YtnihacajjpcjeaaProg
import Derived.WalkKit
import Derived.ProofKit
import Derived.WalkMore
import Derived.Deep.LoopGhost
import Derived.Deep.QuietTactic
import Derived.BigQuiet
import Derived.OneCell
import Derived.IntWalk
import Derived.Laws.AppendOwn
import Derived.Laws.OwnMore
import Derived.RegionTactic
import Derived.Deep.RegionLaw
import Derived.Deep.RegionHeld3
import Derived.Deep.AppendLies
import Derived.OwnWalk
import Derived.Below
import Derived.WideShapes
import Derived.Laws.BytesString
import Derived.Laws.IdiomStrings
import Derived.Laws.BitsLemmas
section
set_option linter.unusedVariables false
set_option linter.unusedSimpArgs false
namespace Go.Proofs.Ytnihacajjpcjeaa
open Go.RowKit

theorem mkHid {p : Prop} (h : p) : Hid p := h
end Go.Proofs.Ytnihacajjpcjeaa

end
section
set_option linter.unusedVariables false
set_option linter.unusedSimpArgs false
namespace Go.Proofs.Ytnihacajjpcjeaa
open Go.RowKit Go.Proofs.YtnihacajjpcjeaaW.PrintWords Go.Proofs.YtnihacajjpcjeaaW.PrintLast Go.Proofs.YtnihacajjpcjeaaW.PrintMore

/-- a row that is read: its block, and its cells -/
theorem C_at {α : Type} {d : Kd α} {w : World} {A : Option Addr} {n : Nat} {xs : List α} (h : d.C w A n xs) (hs : 0 < d.sz) (hn : 0 < n) :
    ∃ b o, A = some ⟨b, o, none⟩ ∧ b < w.heap.size ∧ ∀ j x, xs[j]? = some x → ∃ c, c.length = d.sz ∧ d.K w x c ∧ ∀ i u, c[i]? = some u → w.cell? ⟨b, o + j * d.sz + i, none⟩ = some u := by
  obtain ⟨h1, h2, h3⟩ := h
  obtain ⟨⟨b, o, s⟩, rfl, hc⟩ := h3 hn
  obtain ⟨x, hx⟩ : ∃ x, xs[0]? = some x := ⟨_, List.getElem?_eq_getElem (h := by omega)⟩
  obtain ⟨c, c1, c2, c3⟩ := hc 0 x hx
  have k := c3 0 _ (List.getElem?_eq_getElem (h := by omega))
  have e : (⟨b, o, s⟩ : Addr).add (0 * d.sz + 0) = ⟨b, o, s⟩ := by rw [Nat.zero_mul]; simp [Addr.add]
  rw [e] at k
  have hsp : s = none := World.cell?_spot k
  subst hsp
  refine ⟨b, o, rfl, World.block_lt_of_cell? _ _ k, fun j x hj => ?_⟩
  obtain ⟨c, c1, c2, c3⟩ := hc j x hj
  refine ⟨c, c1, c2, fun i u hu => ?_⟩
  have := c3 i u hu
  rw [WideShapes.add_plain, ← Nat.add_assoc] at this
  exact this
theorem Reps.one_ {α : Type} {d : Kd α} {w : World} {xs : List α} {inner : List Value} (hr : Reps (d.K w) d.sz xs inner) (hs : 0 < d.sz) : ∀ u ∈ inner, u.oneCell' = true := by
  intro u hu
  obtain ⟨i, hi⟩ := List.getElem?_of_mem hu
  have hlt := (List.getElem?_eq_some_iff.1 hi).1
  rw [hr.1] at hlt
  have hj : i / d.sz < xs.length := by rw [Nat.div_lt_iff_lt_mul hs]; exact hlt
  have hk := hr.2 (i / d.sz) _ (List.getElem?_eq_getElem hj)
  refine d.K_one hk u ?_
  refine List.mem_of_getElem? (i := i % d.sz) ?_
  rw [List.getElem?_take_of_lt (Nat.mod_lt _ hs), List.getElem?_drop, Nat.mul_comm, Nat.div_add_mod]
  exact hi
end Go.Proofs.Ytnihacajjpcjeaa

end
section
namespace Go.Proofs.Ytnihacajjpcjeaa
open Go.RowKit Go.Proofs.YtnihacajjpcjeaaW.PrintWords Go.Proofs.YtnihacajjpcjeaaW.PrintLast Go.Proofs.YtnihacajjpcjeaaW.PrintMore
set_option linter.unusedVariables false
set_option linter.unusedSimpArgs false
set_option linter.unusedSectionVars false

/-- a way from the root: its bits, from the highest on -/
abbrev Way := List Bool
def bitB (a : Int) (i : Nat) : Bool := a / 2 ^ (31 - i) % 2 == 1
def wayA (a : Int) : Nat → Way
  | 0 => []
  | n + 1 => wayA a n ++ [bitB a n]
theorem wayA_len (a : Int) (n : Nat) : (wayA a n).length = n := by
  induction n with
  | zero => rfl
  | succ n ih => simp [wayA, ih]
theorem wayA_take (a : Int) (n i : Nat) (h : i ≤ n) : (wayA a n).take i = wayA a i := by
  induction n with
  | zero => obtain rfl : i = 0 := by omega
            rfl
  | succ n ih =>
    by_cases e : i = n + 1
    · subst e
      rw [List.take_of_length_le (by rw [wayA_len]; exact Nat.le_refl _)]
    · simp only [wayA]
      rw [List.take_append_of_le_length (by rw [wayA_len]; omega)]
      exact ih (by omega)

theorem wayA_split (a : Int) {i n : Nat} (h : i ≤ n) : ∃ ρ : Way, wayA a n = wayA a i ++ ρ := by
  refine ⟨(wayA a n).drop i, ?_⟩
  rw [← wayA_take a n i h, List.take_append_drop]
/-- what a trie's values are: how a value stands in a cell, the zero, the types of a node and of a trie -/
structure TK (V : Type) where
  emb : V → Value
  z : V
  tn : TypeId
  tt : TypeId
section
variable {V : Type} (K : TK V)
def ptrT (D : Way → Bool) (blk : Way → Nat) (π : Way) : Value := if D π = true then .pointer (some ⟨blk π, 0, none⟩) else .pointer none
def nodeT (D : Way → Bool) (m : Way → Option V) (blk : Way → Nat) (π : Way) : Array Value :=
  #[ptrT D blk (π ++ [false]), ptrT D blk (π ++ [true]), .bool (m π).isSome, K.emb ((m π).getD K.z)]
/-- the nodes D lie in a world, with the values m, in the blocks blk -/
structure Nodes (w : World) (D : Way → Bool) (m : Way → Option V) (blk : Way → Nat) : Prop where
  lies : ∀ π, D π = true → w.heap[blk π]? = some (.cells (nodeT K D m blk π) K.tn (0, 0))
  inj : ∀ π ρ, D π = true → D ρ = true → blk π = blk ρ → π = ρ
  up : ∀ π b, D (π ++ [b]) = true → D π = true
  sup : ∀ π, (m π).isSome = true → D π = true
structure TrieAt (w : World) (bt : Nat) (n : Int) (D : Way → Bool) (m : Way → Option V) (blk : Way → Nat) : Prop where
  nodes : Nodes K w D m blk
  root : w.heap[bt]? = some (.cells #[ptrT D blk [], .int .i64 n] K.tt (0, 0))
  ne : ∀ π, D π = true → blk π ≠ bt
/-- blocks of one's own are let go, all others are kept -/
structure Kb (own : Nat → Prop) (w w' : World) : Prop where
  os : w'.os = w.os
  tape : w'.tape = w.tape
  output : w'.output = w.output
  size : w.heap.size ≤ w'.heap.size
  block : ∀ b, b < w.heap.size → ¬ own b → w'.heap[b]? = w.heap[b]?
end
theorem Kb.refl (own : Nat → Prop) (w : World) : Kb own w w := ⟨rfl, rfl, rfl, Nat.le_refl _, fun _ _ _ => rfl⟩
theorem Kb.trans {own : Nat → Prop} {a b c : World} (h : Kb own a b) (k : Kb own b c) : Kb own a c :=
  ⟨k.os.trans h.os, k.tape.trans h.tape, k.output.trans h.output, Nat.le_trans h.size k.size, fun i hi ho => (k.block i (Nat.lt_of_lt_of_le hi h.size) ho).trans (h.block i hi ho)⟩
theorem Kb.of_below {own : Nat → Prop} {a w : World} (h : Below a.heap.size a w) : Kb own a w := ⟨h.os, h.tape, h.output, h.size, fun i hi _ => h.block i hi⟩
theorem Kb.below {own : Nat → Prop} {a w : World} {B : Nat} (h : Kb own a w) (hB : B ≤ a.heap.size) (ho : ∀ i, own i → B ≤ i) : Below B a w :=
  ⟨h.os, h.tape, h.output, h.size, fun i hi => h.block i (by omega) (fun hk => by have := ho i hk; omega)⟩
theorem Kb.drewN {own : Nat → Prop} {a w : World} (h : Kb own a w) (n : Nat) : Kb own a (w.drewN n) := ⟨h.os, h.tape, h.output, h.size, h.block⟩
section
variable {V : Type} {K : TK V} {w w' : World} {bt : Nat} {n : Int} {D : Way → Bool} {m : Way → Option V} {blk : Way → Nat}
theorem Nodes.keep (h : Nodes K w D m blk) (hk : ∀ π, D π = true → w'.heap[blk π]? = w.heap[blk π]?) : Nodes K w' D m blk :=
  ⟨fun π hp => (hk π hp).trans (h.lies π hp), h.inj, h.up, h.sup⟩
theorem blk_lt {w : World} {b : Nat} {o : Obj} (h : w.heap[b]? = some o) : b < w.heap.size := (Array.getElem?_eq_some_iff.1 h).1
theorem Nodes.lt (h : Nodes K w D m blk) {π : Way} (hp : D π = true) : blk π < w.heap.size := blk_lt (h.lies π hp)
theorem TrieAt.below (h : TrieAt K w bt n D m blk) (hb : Below w.heap.size w w') : TrieAt K w' bt n D m blk :=
  ⟨h.nodes.keep (fun π hp => hb.block _ (h.nodes.lt hp)), (hb.block _ (blk_lt h.root)).trans h.root, h.ne⟩
theorem TrieAt.drewN (h : TrieAt K w bt n D m blk) (k : Nat) : TrieAt K (w.drewN k) bt n D m blk := ⟨⟨h.nodes.lies, h.nodes.inj, h.nodes.up, h.nodes.sup⟩, h.root, h.ne⟩
theorem cell_blk {w : World} {b : Nat} {cs : Array Value} {t : TypeId} (h : w.heap[b]? = some (.cells cs t (0, 0))) (i : Nat) : w.cell? ⟨b, i, none⟩ = cs[i]? := by
  simp [World.cell?, h]
theorem froz_blk {w : World} {b : Nat} {cs : Array Value} {t : TypeId} (h : w.heap[b]? = some (.cells cs t (0, 0))) (i : Nat) : w.frozen? ⟨b, i, none⟩ = false := by
  simp [World.frozen?, h]
theorem TrieAt.cell0 (h : TrieAt K w bt n D m blk) : w.cell? ⟨bt, 0, none⟩ = some (ptrT D blk []) := (cell_blk h.root 0).trans rfl
theorem TrieAt.cell1 (h : TrieAt K w bt n D m blk) : w.cell? ⟨bt, 1, none⟩ = some (.int .i64 n) := (cell_blk h.root 1).trans rfl
theorem Nodes.kid (h : Nodes K w D m blk) {π : Way} (hp : D π = true) (b : Bool) : w.cell? ⟨blk π, b.toNat, none⟩ = some (ptrT D blk (π ++ [b])) := by
  rw [cell_blk (h.lies π hp)]
  cases b <;> rfl
theorem Nodes.is (h : Nodes K w D m blk) {π : Way} (hp : D π = true) : w.cell? ⟨blk π, 2, none⟩ = some (.bool (m π).isSome) := (cell_blk (h.lies π hp) 2).trans rfl
theorem Nodes.val (h : Nodes K w D m blk) {π : Way} (hp : D π = true) : w.cell? ⟨blk π, 3, none⟩ = some (K.emb ((m π).getD K.z)) := (cell_blk (h.lies π hp) 3).trans rfl
theorem ptrT_some {π : Way} (h : D π = true) : ptrT D blk π = .pointer (some ⟨blk π, 0, none⟩) := by unfold ptrT; rw [if_pos h]
theorem ptrT_none {π : Way} (h : D π = false) : ptrT D blk π = .pointer none := by unfold ptrT; rw [if_neg (by simp [h])]
theorem Nodes.ups (h : Nodes K w D m blk) : ∀ (ρ π : Way), D (π ++ ρ) = true → D π = true := by
  intro ρ
  induction ρ with
  | nil => intro π h1; simpa using h1
  | cons b ρ ih => intro π h1; exact h.up π b (ih (π ++ [b]) (by simpa using h1))
end
end Go.Proofs.Ytnihacajjpcjeaa

end
section
set_option linter.unusedVariables false
set_option linter.unusedSimpArgs false
namespace Go.Proofs.Ytnihacajjpcjeaa
open Go.RowKit Go.Proofs.YtnihacajjpcjeaaW.PrintWords Go.Proofs.YtnihacajjpcjeaaW.PrintLast Go.Proofs.YtnihacajjpcjeaaW.PrintMore

/-- with rounds enough, r comes out -/
def Evt {α : Type} (g : Nat → Option α) (r : α) : Prop := ∃ K, ∀ k, K ≤ k → g k = some r
theorem Evt.ex {α : Type} {g : Nat → Option α} {r : α} (h : Evt g r) : ∃ k, g k = some r := h.imp fun K hK => hK K (Nat.le_refl _)
theorem Evt.pure {α : Type} (r : α) : Evt (fun _ => some r) r := ⟨0, fun _ _ => rfl⟩
theorem Evt.of {α : Type} {g : Nat → Option α} {r : α} (h : ∀ k, g k = some r) : Evt g r := ⟨0, fun k _ => h k⟩
theorem Evt.bind {α β : Type} {g : Nat → Option α} {f : Nat → α → Option β} {a : α} {b : β} (h : Evt g a) (h2 : Evt (fun k => f k a) b) : Evt (fun k => (g k).bind (f k)) b := by
  obtain ⟨K, h⟩ := h
  obtain ⟨L, h2⟩ := h2
  exact ⟨max K L, fun k hk => by show (g k).bind (f k) = some b; rw [h k (by omega)]; exact h2 k (by omega)⟩
theorem Evt.bindc {α β : Type} {o : Option α} {f : Nat → α → Option β} {a : α} {b : β} (h : o = some a) (h2 : Evt (fun k => f k a) b) : Evt (fun k => o.bind (f k)) b := by
  subst h; exact h2
theorem Evt.step {α : Type} {g : Nat → Option α} {r : α} (h : Evt (fun k => g (k + 1)) r) : Evt g r := by
  obtain ⟨K, h⟩ := h
  refine ⟨K + 1, fun k hk => ?_⟩
  obtain ⟨k, rfl⟩ : ∃ m, k = m + 1 := ⟨k - 1, by omega⟩
  exact h k (by omega)
theorem Evt.ite_pos {α : Type} {c : Prop} [Decidable c] {x y : Nat → Option α} {r : α} (hc : c) (h : Evt x r) : Evt (fun k => if c then x k else y k) r := by
  simp only [if_pos hc]; exact h
theorem Evt.ite_neg {α : Type} {c : Prop} [Decidable c] {x y : Nat → Option α} {r : α} (hc : ¬ c) (h : Evt y r) : Evt (fun k => if c then x k else y k) r := by
  simp only [if_neg hc]; exact h
theorem wrap64_in (x : Int) (h0 : -9223372036854775808 ≤ x) (h1 : x ≤ 9223372036854775807) : wrap64 x = x := by unfold wrap64; omega

theorem mask_not (n : Nat) (hn : n ≤ 32) : ~~~(BitVec.ofInt 32 (4294967296 - 2 ^ n)) = BitVec.ofNat 32 (2 ^ n - 1) := by
  have : ∀ n : Fin 33, ~~~(BitVec.ofInt 32 (4294967296 - 2 ^ n.val)) = BitVec.ofNat 32 (2 ^ n.val - 1) := by decide +kernel
  exact this ⟨n, by omega⟩
theorem shl_all (n : Nat) (hn : n ≤ 32) : shl .u32 4294967295 n = 4294967296 - 2 ^ n := by
  have : ∀ n : Fin 33, 0 < n.val → shl .u32 4294967295 n.val = 4294967296 - 2 ^ n.val := by decide +kernel
  rcases Nat.eq_zero_or_pos n with rfl | h
  · decide +kernel
  · exact this ⟨n, by omega⟩ h
theorem ofN (x : Nat) : BitVec.ofInt 32 (x : Int) = BitVec.ofNat 32 x := by simp
theorem andNot_mask (a : Int) (n : Nat) (h0 : 0 ≤ a) (h1 : a < 4294967296) (hn : n ≤ 32) : bits .andNot .u32 a (4294967296 - 2 ^ n) = a % 2 ^ n := by
  obtain ⟨x, rfl⟩ := Int.eq_ofNat_of_zero_le h0
  show IntKind.u32.wrap ((BitVec.ofInt 32 (x : Int) &&& ~~~ BitVec.ofInt 32 (4294967296 - 2 ^ n)).toNat : Int) = _
  rw [mask_not n hn, IntKind.wrap_u32, ofN, BitVec.toNat_and, BitVec.toNat_ofNat, BitVec.toNat_ofNat]
  have hx : x % 2 ^ 32 = x := Nat.mod_eq_of_lt (by omega)
  have hp : 2 ^ n ≤ 2 ^ 32 := Nat.pow_le_pow_right (by decide) hn
  have hpos : 0 < 2 ^ n := Nat.two_pow_pos n
  have hq : (2 ^ n - 1) % 2 ^ 32 = 2 ^ n - 1 := Nat.mod_eq_of_lt (by omega)
  rw [hx, hq, Nat.and_two_pow_sub_one_eq_mod]
  have : x % 2 ^ n < 2 ^ n := Nat.mod_lt _ hpos
  have hz : (((x % 2 ^ n : Nat) : Int)) = (x : Int) % 2 ^ n := by simp
  rw [← hz]
  omega
end Go.Proofs.Ytnihacajjpcjeaa

end
section
namespace Go.Proofs.Ytnihacajjpcjeaa
open Go.RowKit Go.Proofs.Ytnihacajjpcjeaa.P Go.Proofs.YtnihacajjpcjeaaW.PrintWords Go.Proofs.YtnihacajjpcjeaaW.PrintLast Go.Proofs.YtnihacajjpcjeaaW.PrintMore
set_option linter.unusedVariables false
set_option linter.unusedSimpArgs false

theorem and_one (a : Int) (h0 : 0 ≤ a) (h1 : a < 4294967296) : Go.bits .and .u32 a 1 = a % 2 := by
  obtain ⟨x, rfl⟩ := Int.eq_ofNat_of_zero_le h0
  show IntKind.u32.wrap ((BitVec.ofInt 32 (x : Int) &&& BitVec.ofInt 32 1).toNat : Int) = _
  rw [IntKind.wrap_u32, ofN, BitVec.toNat_and, BitVec.toNat_ofNat]
  have : (BitVec.ofInt 32 1).toNat = 1 := by decide
  rw [this, Nat.and_one_is_mod]
  have hx : x % 2 ^ 32 = x := Nat.mod_eq_of_lt (by omega)
  rw [hx]
  omega
theorem shr_in (a : Int) (i : Nat) (hi : i ≤ 32) : shr .u32 a (i : Int) = a / 2 ^ i := by
  show a / 2 ^ min ((i : Int)).toNat 32 = _
  rw [Int.toNat_natCast, Nat.min_eq_left hi]
theorem tbit_ev (a : Int) (i : Nat) (h0 : 0 ≤ a) (h1 : a < 4294967296) (hi : i ≤ 31) : trie_bit.f a (i : Int) = some ((bitB a i).toNat : Int) := by
  have e : wrap64 (31 - (i : Int)) = ((31 - i : Nat) : Int) := by rw [wrap64_in _ (by omega) (by omega)]; omega
  unfold trie_bit.f
  rw [if_pos (by rw [e]; omega), e, shr_in _ _ (by omega)]
  have hp : (0 : Int) < 2 ^ (31 - i) := Int.pow_pos (by decide)
  have q0 : 0 ≤ a / 2 ^ (31 - i) := Int.ediv_nonneg h0 (by omega)
  have q1 : a / 2 ^ (31 - i) ≤ a := Int.ediv_le_self _ h0
  rw [and_one _ q0 (by omega)]
  unfold bitB
  obtain ⟨q, hq⟩ : ∃ q : Int, q = a / 2 ^ (31 - i) % 2 := ⟨_, rfl⟩
  rw [← hq]
  have : q = 0 ∨ q = 1 := by omega
  rcases this with h | h <;> rw [h, wrap64_in _ (by omega) (by omega)] <;> rfl
theorem may_bits {a b : Int} (h : addr_May.f a b = some true) : 0 ≤ b ∧ b ≤ 32 := by
  unfold addr_May.f at h
  by_cases h1 : b ≥ 0
  · rw [if_pos h1] at h
    by_cases h2 : b ≤ 32
    · exact ⟨h1, h2⟩
    · rw [if_neg h2] at h; simp at h
  · rw [if_neg h1] at h; simp at h
/-- a trie: its own blocks, how many values, the values by their ways -/
def Tri {V : Type} (K : TK V) (w : World) (bt : Nat) (own : Nat → Prop) (n : Int) (m : Way → Option V) : Prop :=
  ∃ (D : Way → Bool) (blk : Way → Nat), TrieAt K w bt n D m blk ∧ (∀ π, D π = true → ∃ ρ, (m (π ++ ρ)).isSome = true) ∧ own bt ∧ ∀ π, D π = true → own (blk π)
theorem Tri.below {V : Type} {K : TK V} {w w' : World} {bt : Nat} {own : Nat → Prop} {n : Int} {m : Way → Option V} (h : Tri K w bt own n m) (hb : Below w.heap.size w w') : Tri K w' bt own n m := by
  obtain ⟨D, blk, h1, h2, h3, h4⟩ := h
  exact ⟨D, blk, h1.below hb, h2, h3, h4⟩
theorem Tri.drewN {V : Type} {K : TK V} {w : World} {bt : Nat} {own : Nat → Prop} {n : Int} {m : Way → Option V} (h : Tri K w bt own n m) (k : Nat) : Tri K (w.drewN k) bt own n m := by
  obtain ⟨D, blk, h1, h2, h3, h4⟩ := h
  exact ⟨D, blk, h1.drewN k, h2, h3, h4⟩
theorem Tri.mono {V : Type} {K : TK V} {w : World} {bt : Nat} {own own' : Nat → Prop} {n : Int} {m : Way → Option V} (h : Tri K w bt own n m) (ho : ∀ b, own b → own' b) : Tri K w bt own' n m := by
  obtain ⟨D, blk, h1, h2, h3, h4⟩ := h
  exact ⟨D, blk, h1, h2, ho _ h3, fun π hp => ho _ (h4 π hp)⟩
theorem Tri.lt {V : Type} {K : TK V} {w : World} {bt : Nat} {own : Nat → Prop} {n : Int} {m : Way → Option V} (h : Tri K w bt own n m) : bt < w.heap.size := by
  obtain ⟨D, blk, h1, h2, h3, h4⟩ := h
  exact blk_lt h1.root
end Go.Proofs.Ytnihacajjpcjeaa

end
section
namespace Go.Proofs.Ytnihacajjpcjeaa
open Go.RowKit Go.Proofs.Ytnihacajjpcjeaa.P Go.Proofs.YtnihacajjpcjeaaW.PrintWords Go.Proofs.YtnihacajjpcjeaaW.PrintLast Go.Proofs.YtnihacajjpcjeaaW.PrintMore
set_option linter.unusedVariables false
set_option linter.unusedSimpArgs false

def kI : TK Int := ⟨fun v => .int .i64 v, 0, 84, 75⟩

set_option maxHeartbeats 4000000 in
set_option maxRecDepth 100000 in
theorem find_not (w : World) (bt : Nat) (a b : Int) (hM : addr_May.f a b = some false) :
    Calls Try.prog 42 #[.pointer (some ⟨bt, 0, none⟩), .agg #[.int .u32 a, .int .i64 b]] w fun e w' => e = .returned (.pointer none) ∧ Below w.heap.size w w' := by
  have HM := mkHid hM
  clear hM
  go_enter Try.func42, Try.ntmps42
  go_wp2_with fail
  refine (addr_May.calls a b false _ HM.out).mono ?_
  rintro e w1 ⟨rfl, hb⟩
  have HB : Hid (Below w.heap.size w w1) := below_step (Below.alloc (Below.refl _ w) (Nat.le_refl _) _) hb
  clear hb
  go_wp2_with fail
  go_ret
  exact ⟨rfl, HB.out⟩

set_option maxHeartbeats 4000000 in
set_option maxRecDepth 100000 in
theorem find_calls (w : World) (bt : Nat) (n : Int) (D : Way → Bool) (m : Way → Option Int) (blk : Way → Nat) (hT : TrieAt kI w bt n D m blk) (a : Int) (N : Nat) (h0 : 0 ≤ a) (h1 : a < 4294967296) (b1 : N ≤ 32) (hM : addr_May.f a N = some true) :
    Calls Try.prog 42 #[.pointer (some ⟨bt, 0, none⟩), .agg #[.int .u32 a, .int .i64 N]] w fun e w' => e = .returned (ptrT D blk (wayA a N)) ∧ Below w.heap.size w w' := by
  have HM := mkHid hM
  have HT := mkHid hT
  have hbt := blk_lt hT.root
  clear hM hT
  go_enter Try.func42, Try.ntmps42
  go_wp2_with fail
  have hx0 : (w.alloc (.cells #[.int .u32 a, .int .i64 N] 34)).cell? ⟨w.heap.size, 0, none⟩ = some (.int .u32 a) := by go_simp
  have hx1 : (w.alloc (.cells #[.int .u32 a, .int .i64 N] 34)).cell? ⟨w.heap.size, 1, none⟩ = some (.int .i64 N) := by go_simp
  refine (addr_May.calls a N true _ HM.out).mono ?_
  rintro e w1 ⟨rfl, hb⟩
  have HB : Hid (Below w.heap.size w w1) := below_step (Below.alloc (Below.refl _ w) (Nat.le_refl _) _) hb
  have hs : w.heap.size < w1.heap.size := by have := hb.size; simp at this; omega
  have q0 : w1.cell? ⟨w.heap.size, 0, none⟩ = some (.int .u32 a) := (hb.cell (by simp)).trans hx0
  have q1 : w1.cell? ⟨w.heap.size, 1, none⟩ = some (.int .i64 N) := (hb.cell (by simp)).trans hx1
  have HT1 := mkHid (HT.out.below HB.out)
  have hc0 : w1.cell? ⟨bt, 0, none⟩ = some (ptrT D blk []) := HT1.out.cell0
  clear hb hx0 hx1
  go_wp2_with fail
  clear hc0
  go_loopg [5, 6] N (fun kq v5 v6 wr => ∃ i : Nat, v6 = .int .i64 i ∧ i ≤ N ∧ v5 = ptrT D blk (wayA a i) ∧ i + kq = N ∧ wr.cell? ⟨w.heap.size, 0, none⟩ = some (.int .u32 a) ∧ wr.cell? ⟨w.heap.size, 1, none⟩ = some (.int .i64 N) ∧ Hid (Below w1.heap.size w1 wr))
  case atStart => exact ⟨0, rfl, by omega, rfl, by omega, q0, q1, Below.refl _ _⟩
  case round =>
    clear q0 q1
    obtain ⟨i, rfl, hi, rfl, hk, q0, q1, HBR⟩ := hrel
    have HTR := mkHid (HT1.out.below HBR.out)
    have hfin : Hid (Below w.heap.size w wr) := below_step HB.out HBR.out
    by_cases hin : i < N
    · have c1 : decide ((i : Int) < (N : Int)) = true := decide_eq_true (by omega)
      cases hD : D (wayA a i) with
      | false =>
        have hres : ptrT D blk (wayA a N) = .pointer none := by
          refine ptrT_none ?_
          obtain ⟨ρ, hρ⟩ := wayA_split a hi
          cases hd : D (wayA a N) with
          | false => rfl
          | true => rw [hρ] at hd; rw [HTR.out.nodes.ups ρ _ hd] at hD; cases hD
        rw [ptrT_none hD]
        go_wp2_with fail
        go_ret
        exact ⟨by rw [hres]; rfl, hfin.out⟩
      | true =>
        rw [ptrT_some hD]
        have hk0 : wr.cell? ⟨blk (wayA a i), 0, none⟩ = some (ptrT D blk (wayA a i ++ [false])) := HTR.out.nodes.kid hD false
        have hk1 : wr.cell? ⟨blk (wayA a i), 1, none⟩ = some (ptrT D blk (wayA a i ++ [true])) := HTR.out.nodes.kid hD true
        have hw : IntKind.i64.wrap ((i : Int) + 1) = ((i + 1 : Nat) : Int) := by rw [IntWalk.i64_in _ (by omega)]; omega
        have hbit : Hid (trie_bit.f a (i : Int) = some ((bitB a i).toNat : Int)) := tbit_ev a i h0 h1 (by omega)
        cases hB : bitB a i with
        | false =>
          rw [hB] at hbit
          go_upto_region 7 with fail
          go_quiet ((first | (go_at_call 45; (with_reducible refine (trie_bit.calls a i ((false.toNat : Nat) : Int) _ hbit.out).mono ?_); rintro e w' ⟨rfl, ⟨nd, rfl⟩⟩; (try first | exact ⟨rfl, _, World.drewN_drewN _ _ _⟩))))
          go_wp2_with fail
          go_roundg (gk - 1)
          case measure => omega
          case rel => exact ⟨i + 1, rfl, by omega, congrArg (ptrT D blk) (show _ = wayA a (i + 1) by rw [wayA, hB]), by omega, q0, q1, pw_below_drewN HBR.out _⟩
        | true =>
          rw [hB] at hbit
          go_upto_region 7 with fail
          go_quiet ((first | (go_at_call 45; (with_reducible refine (trie_bit.calls a i ((true.toNat : Nat) : Int) _ hbit.out).mono ?_); rintro e w' ⟨rfl, ⟨nd, rfl⟩⟩; (try first | exact ⟨rfl, _, World.drewN_drewN _ _ _⟩))))
          go_wp2_with fail
          go_roundg (gk - 1)
          case measure => omega
          case rel => exact ⟨i + 1, rfl, by omega, congrArg (ptrT D blk) (show _ = wayA a (i + 1) by rw [wayA, hB]), by omega, q0, q1, pw_below_drewN HBR.out _⟩
    · obtain rfl : i = N := by omega
      have c1 : decide ((i : Int) < (i : Int)) = false := decide_eq_false (by omega)
      go_wp2_with fail
      go_ret
      exact ⟨rfl, hfin.out⟩
end Go.Proofs.Ytnihacajjpcjeaa

end
section
namespace Go.Proofs.Ytnihacajjpcjeaa
open Go.RowKit Go.Proofs.Ytnihacajjpcjeaa.P Go.Proofs.YtnihacajjpcjeaaW.PrintWords Go.Proofs.YtnihacajjpcjeaaW.PrintLast Go.Proofs.YtnihacajjpcjeaaW.PrintMore
set_option linter.unusedVariables false
set_option linter.unusedSimpArgs false

theorem new_at (w : World) : Tri kI (w.alloc (.cells #[.pointer none, .int .i64 0] 75)) w.heap.size (fun b => b = w.heap.size) 0 (fun _ => none) := by
  refine ⟨fun _ => false, fun _ => 0, ⟨⟨fun _ h => (by simp at h), fun _ _ h => (by simp at h), fun _ _ h => (by simp at h), fun _ h => (by simp at h)⟩, ?_, fun _ h => (by simp at h)⟩, fun _ h => (by simp at h), rfl, fun _ h => (by simp at h)⟩
  exact heap_alloc_new w _
set_option maxHeartbeats 4000000 in
set_option maxRecDepth 100000 in
theorem new_calls (w : World) : Calls Try.prog 29 #[] w fun e w' => e = .returned (.pointer (some ⟨w.heap.size, 0, none⟩)) ∧ w.heap.size < w'.heap.size ∧ Tri kI w' w.heap.size (fun b => b = w.heap.size) 0 (fun _ => none) ∧ Below w.heap.size w w' := by
  go_enter Try.func29, Try.ntmps29
  go_wp2_with fail
  go_ret
  exact ⟨rfl, by simp, new_at w, Below.alloc (Below.refl _ _) (Nat.le_refl _) _⟩

end Go.Proofs.Ytnihacajjpcjeaa

end
section
namespace Go.Proofs.Ytnihacajjpcjeaa
open Go.RowKit Go.Proofs.YtnihacajjpcjeaaW.PrintWords Go.Proofs.YtnihacajjpcjeaaW.PrintLast Go.Proofs.YtnihacajjpcjeaaW.PrintMore
set_option linter.unusedVariables false
set_option linter.unusedSimpArgs false
set_option linter.unusedSectionVars false

section
variable {V : Type} (K : TK V)
/-- the pointer to the node at π isn't written yet: u stands there -/
def ptrU (D : Way → Bool) (blk : Way → Nat) (π : Way) (u : Value) (ρ : Way) : Value := if ρ = π then u else ptrT D blk ρ
def nodeU (D : Way → Bool) (m : Way → Option V) (blk : Way → Nat) (π : Way) (u : Value) (ρ : Way) : Array Value :=
  #[ptrU D blk π u (ρ ++ [false]), ptrU D blk π u (ρ ++ [true]), .bool (m ρ).isSome, K.emb ((m ρ).getD K.z)]
structure TrieBut (w : World) (bt : Nat) (n : Int) (D : Way → Bool) (m : Way → Option V) (blk : Way → Nat) (π : Way) (u : Value) : Prop where
  lies : ∀ ρ, D ρ = true → w.heap[blk ρ]? = some (.cells (nodeU K D m blk π u ρ) K.tn (0, 0))
  inj : ∀ π ρ, D π = true → D ρ = true → blk π = blk ρ → π = ρ
  up : ∀ π b, D (π ++ [b]) = true → D π = true
  sup : ∀ π, (m π).isSome = true → D π = true
  root : w.heap[bt]? = some (.cells #[ptrU D blk π u [], .int .i64 n] K.tt (0, 0))
  ne : ∀ π, D π = true → blk π ≠ bt
/-- where the pointer to a node stands -/
def IsSlot (bt : Nat) (D : Way → Bool) (blk : Way → Nat) (π : Way) (s : Addr) : Prop :=
  (π = [] ∧ s = ⟨bt, 0, none⟩) ∨ ∃ ρ c, π = ρ ++ [c] ∧ D ρ = true ∧ s = ⟨blk ρ, c.toNat, none⟩
end
section
variable {V : Type} {K : TK V} {w w' : World} {bt : Nat} {n : Int} {D : Way → Bool} {m : Way → Option V} {blk : Way → Nat}
theorem ptrU_ne {π ρ : Way} {u : Value} (h : ρ ≠ π) : ptrU D blk π u ρ = ptrT D blk ρ := if_neg h
theorem ptrU_eq {π : Way} {u : Value} : ptrU D blk π u π = u := if_pos rfl
theorem snoc_inj {ρ π : Way} {a b : Bool} (h : ρ ++ [a] = π ++ [b]) : ρ = π ∧ a = b := by
  have := List.append_inj' h rfl
  exact ⟨this.1, by simpa using this.2⟩
theorem TrieAt.but (h : TrieAt K w bt n D m blk) (π : Way) : TrieBut K w bt n D m blk π (ptrT D blk π) := by
  have e : ∀ ρ, ptrU D blk π (ptrT D blk π) ρ = ptrT D blk ρ := fun ρ => by
    unfold ptrU; split
    · rename_i h; rw [h]
    · rfl
  refine ⟨fun ρ hp => ?_, h.nodes.inj, h.nodes.up, h.nodes.sup, ?_, h.ne⟩
  · unfold nodeU; rw [e, e]; exact h.nodes.lies ρ hp
  · rw [e]; exact h.root
theorem TrieBut.keep {π : Way} {u : Value} (h : TrieBut K w bt n D m blk π u) (hk : ∀ b, b = bt ∨ (∃ ρ, D ρ = true ∧ b = blk ρ) → w'.heap[b]? = w.heap[b]?) : TrieBut K w' bt n D m blk π u :=
  ⟨fun ρ hp => (hk _ (.inr ⟨ρ, hp, rfl⟩)).trans (h.lies ρ hp), h.inj, h.up, h.sup, (hk _ (.inl rfl)).trans h.root, h.ne⟩
theorem TrieBut.drewN {π : Way} {u : Value} (h : TrieBut K w bt n D m blk π u) (k : Nat) : TrieBut K (w.drewN k) bt n D m blk π u := ⟨h.lies, h.inj, h.up, h.sup, h.root, h.ne⟩
/-- the pointer is written -/
theorem TrieBut.set {π : Way} {u : Value} {s : Addr} (h : TrieBut K w bt n D m blk π u) (hs : IsSlot bt D blk π s) : TrieAt K (w.setCell s (ptrT D blk π)) bt n D m blk := by
  rcases hs with ⟨rfl, rfl⟩ | ⟨ρ0, c, rfl, hD, rfl⟩
  · refine ⟨⟨fun ρ hp => ?_, h.inj, h.up, h.sup⟩, ?_, h.ne⟩
    · rw [Below.heap_setCell _ _ _ _ (h.ne ρ hp), h.lies ρ hp]
      unfold nodeU nodeT
      rw [ptrU_ne (by simp), ptrU_ne (by simp)]
    · exact blk_set h.root 0 _
  · refine ⟨⟨fun ρ hp => ?_, h.inj, h.up, h.sup⟩, ?_, h.ne⟩
    · by_cases e : ρ = ρ0
      · subst e
        rw [blk_set (h.lies ρ hp)]
        cases c with
        | false =>
          unfold nodeU nodeT
          rw [ptrU_eq, ptrU_ne (fun hh => by have := (snoc_inj hh).2; cases this)]
          rfl
        | true =>
          unfold nodeU nodeT
          rw [ptrU_eq, ptrU_ne (fun hh => by have := (snoc_inj hh).2; cases this)]
          rfl
      · rw [Below.heap_setCell _ _ _ _ (fun hh => e (h.inj _ _ hp hD hh)), h.lies ρ hp]
        unfold nodeU nodeT
        rw [ptrU_ne (fun hh => e (snoc_inj hh).1), ptrU_ne (fun hh => e (snoc_inj hh).1)]
    · rw [Below.heap_setCell _ _ _ _ (fun hh => h.ne ρ0 hD hh.symm), h.root, ptrU_ne (by simp)]
/-- a node is put in -/
def addD (D : Way → Bool) (π : Way) : Way → Bool := fun ρ => D ρ || decide (ρ = π)
def addB (blk : Way → Nat) (π : Way) (b : Nat) : Way → Nat := fun ρ => if ρ = π then b else blk ρ
theorem addD_self (D : Way → Bool) (π : Way) : addD D π π = true := by simp [addD]
theorem addD_of {D : Way → Bool} {π ρ : Way} (h : D ρ = true) : addD D π ρ = true := by simp [addD, h]
theorem TrieAt.grow (h : TrieAt K w bt n D m blk) {π : Way} (hD : D π = false) (hup : π = [] ∨ ∃ ρ c, π = ρ ++ [c] ∧ D ρ = true) :
    TrieBut K (w.alloc (.cells #[.pointer none, .pointer none, .bool false, K.emb K.z] K.tn)) bt n (addD D π) m (addB blk π w.heap.size) π (.pointer none) := by
  have hne : ∀ ρ, D ρ = true → ρ ≠ π := fun ρ hp e => by rw [e, hD] at hp; cases hp
  have hkid : ∀ b, D (π ++ [b]) = false := fun b => by
    cases hd : D (π ++ [b]) with
    | false => rfl
    | true => rw [h.nodes.up _ _ hd] at hD; cases hD
  have hptr : ∀ ρ, ptrU (addD D π) (addB blk π w.heap.size) π (.pointer none) ρ = ptrT D blk ρ := fun ρ => by
    unfold ptrU
    split
    · rename_i e; subst e; exact (ptrT_none hD).symm
    · rename_i e
      unfold ptrT addD addB
      simp [e]
  have hm : m π = none := by
    cases hv : m π with
    | none => rfl
    | some v => have := h.nodes.sup π (by rw [hv]; rfl); rw [hD] at this; cases this
  have hcase : ∀ ρ, addD D π ρ = true → ρ = π ∨ D ρ = true := fun ρ hp => by
    unfold addD at hp
    rcases Bool.or_eq_true_iff.1 hp with h1 | h1
    · exact .inr h1
    · exact .inl (by simpa using h1)
  have hb1 : addB blk π w.heap.size π = w.heap.size := by simp [addB]
  have hb2 : ∀ ρ, D ρ = true → addB blk π w.heap.size ρ = blk ρ := fun ρ hp => by unfold addB; rw [if_neg (hne ρ hp)]
  refine ⟨fun ρ hp => ?_, fun ρ σ hp hq he => ?_, fun ρ b hp => ?_, fun ρ hp => addD_of (h.nodes.sup ρ hp), ?_, fun ρ hp => ?_⟩
  · unfold nodeU
    rw [hptr, hptr]
    rcases hcase ρ hp with rfl | hd
    · rw [hb1, heap_alloc_new, ptrT_none (hkid _), ptrT_none (hkid _), hm]
      rfl
    · rw [hb2 ρ hd]
      exact blk_alloc (h.nodes.lies ρ hd) _
  · rcases hcase ρ hp with rfl | hd <;> rcases hcase σ hq with rfl | hd2
    · rfl
    · rw [hb1, hb2 σ hd2] at he
      have := h.nodes.lt hd2; omega
    · rw [hb1, hb2 ρ hd] at he
      have := h.nodes.lt hd; omega
    · rw [hb2 ρ hd, hb2 σ hd2] at he
      exact h.nodes.inj _ _ hd hd2 he
  · rcases hcase _ hp with e | hd
    · rcases hup with e2 | ⟨σ, c, e2, hd⟩
      · rw [e2] at e; simp at e
      · rw [e2] at e
        obtain ⟨rfl, _⟩ := snoc_inj e
        exact addD_of hd
    · exact addD_of (h.nodes.up _ _ hd)
  · rw [hptr]
    exact blk_alloc h.root _
  · rcases hcase ρ hp with rfl | hd
    · rw [hb1]; have := blk_lt h.root; omega
    · rw [hb2 ρ hd]; exact h.ne ρ hd
/-- a value is written -/
def putM (m : Way → Option V) (π : Way) (v : Option V) : Way → Option V := fun ρ => if ρ = π then v else m ρ
theorem putM_self (m : Way → Option V) (π : Way) (v : Option V) : putM m π v π = v := by simp [putM]
theorem putM_ne {m : Way → Option V} {π ρ : Way} {v : Option V} (h : ρ ≠ π) : putM m π v ρ = m ρ := by simp [putM, h]
theorem TrieAt.write (h : TrieAt K w bt n D m blk) {π : Way} (hD : D π = true) (v : Option V) :
    TrieAt K ((w.setCell ⟨blk π, 2, none⟩ (.bool v.isSome)).setCell ⟨blk π, 3, none⟩ (K.emb (v.getD K.z))) bt n D (putM m π v) blk := by
  refine ⟨⟨fun ρ hp => ?_, h.nodes.inj, h.nodes.up, fun ρ hp => ?_⟩, ?_, h.ne⟩
  · by_cases e : ρ = π
    · subst e
      rw [blk_set (blk_set (h.nodes.lies ρ hp) 2 _)]
      unfold nodeT
      rw [putM_self]
      rfl
    · have hb : blk ρ ≠ blk π := fun hh => e (h.nodes.inj _ _ hp hD hh)
      rw [Below.heap_setCell _ _ _ _ hb, Below.heap_setCell _ _ _ _ hb, h.nodes.lies ρ hp]
      unfold nodeT
      rw [putM_ne e]
  · by_cases e : ρ = π
    · rw [e]; exact hD
    · rw [putM_ne e] at hp; exact h.nodes.sup ρ hp
  · rw [Below.heap_setCell _ _ _ _ (fun hh => h.ne π hD hh.symm), Below.heap_setCell _ _ _ _ (fun hh => h.ne π hD hh.symm)]
    exact h.root
/-- how many is written -/
theorem TrieAt.count (h : TrieAt K w bt n D m blk) (n' : Int) : TrieAt K (w.setCell ⟨bt, 1, none⟩ (.int .i64 n')) bt n' D m blk := by
  refine ⟨h.nodes.keep (fun π hp => Below.heap_setCell _ _ _ _ (h.ne π hp)), ?_, h.ne⟩
  rw [blk_set h.root]
  rfl
/-- a node without value and kids is taken away -/
def delD (D : Way → Bool) (π : Way) : Way → Bool := fun ρ => D ρ && !decide (ρ = π)
theorem TrieAt.lop (h : TrieAt K w bt n D m blk) {π : Way} (hm : m π = none) (hk : ∀ b, D (π ++ [b]) = false) : TrieBut K w bt n (delD D π) m blk π (ptrT D blk π) := by
  have hcase : ∀ ρ, delD D π ρ = true → D ρ = true ∧ ρ ≠ π := fun ρ hp => by unfold delD at hp; simpa using hp
  have hptr : ∀ ρ, ptrU (delD D π) blk π (ptrT D blk π) ρ = ptrT D blk ρ := fun ρ => by
    unfold ptrU
    split
    · rename_i e; rw [e]
    · rename_i e; unfold ptrT delD; simp [e]
  refine ⟨fun ρ hp => ?_, fun ρ σ hp hq he => h.nodes.inj _ _ (hcase ρ hp).1 (hcase σ hq).1 he, fun ρ b hp => ?_, fun ρ hp => ?_, ?_, fun ρ hp => h.ne ρ (hcase ρ hp).1⟩
  · unfold nodeU
    rw [hptr, hptr]
    exact h.nodes.lies ρ (hcase ρ hp).1
  · obtain ⟨h1, h2⟩ := hcase _ hp
    have h3 := h.nodes.up _ _ h1
    unfold delD
    simp only [h3, Bool.true_and, Bool.not_eq_true', decide_eq_false_iff_not]
    intro e
    subst e
    rw [hk b] at h1; cases h1
  · unfold delD
    have h3 := h.nodes.sup ρ hp
    simp only [h3, Bool.true_and, Bool.not_eq_true', decide_eq_false_iff_not]
    intro e
    subst e
    rw [hm] at hp; cases hp
  · rw [hptr]
    exact h.root
end
theorem cell_keep {X w' : World} (h : Below X.heap.size X w') {p : Addr} {v : Value} (hc : X.cell? p = some v) : w'.cell? p = some v := (h.cell (World.block_lt_of_cell? _ _ hc)).trans hc
theorem Kb.cell {own : Nat → Prop} {w w' : World} (hk : Kb own w w') {p : Addr} {v : Value} (hc : w.cell? p = some v) (ho : ¬ own p.block) : w'.cell? p = some v := by
  have hb := hk.block _ (World.block_lt_of_cell? _ _ hc) ho
  unfold World.cell? at hc ⊢; rw [hb]; exact hc
end Go.Proofs.Ytnihacajjpcjeaa

end
section
namespace Go.Proofs.Ytnihacajjpcjeaa
open Go.RowKit Go.Proofs.Ytnihacajjpcjeaa.P Go.Proofs.YtnihacajjpcjeaaW.PrintWords Go.Proofs.YtnihacajjpcjeaaW.PrintLast Go.Proofs.YtnihacajjpcjeaaW.PrintMore
set_option linter.unusedVariables false
set_option linter.unusedSimpArgs false

/-- where the pointer to the i-th node on the way of an address stands -/
def slotA (bt : Nat) (blk : Way → Nat) (a : Int) : Nat → Addr
  | 0 => ⟨bt, 0, none⟩
  | i + 1 => ⟨blk (wayA a i), (bitB a i).toNat, none⟩
theorem slotA_is {bt : Nat} {D : Way → Bool} {blk : Way → Nat} {a : Int} {i : Nat} (h : ∀ j, j < i → D (wayA a j) = true) : IsSlot bt D blk (wayA a i) (slotA bt blk a i) := by
  cases i with
  | zero => exact .inl ⟨rfl, rfl⟩
  | succ i => exact .inr ⟨wayA a i, bitB a i, rfl, h i (by omega), rfl⟩
theorem slotA_cell {V : Type} {K : TK V} {w : World} {bt : Nat} {n : Int} {D : Way → Bool} {m : Way → Option V} {blk : Way → Nat} {a : Int} {i : Nat} (hT : TrieAt K w bt n D m blk) (h : ∀ j, j < i → D (wayA a j) = true) : w.cell? (slotA bt blk a i) = some (ptrT D blk (wayA a i)) ∧ w.frozen? (slotA bt blk a i) = false ∧ ∃ b o, slotA bt blk a i = ⟨b, o, none⟩ := by
  cases i with
  | zero => exact ⟨hT.cell0, froz_blk hT.root 0, _, _, rfl⟩
  | succ i => exact ⟨hT.nodes.kid (h i (by omega)) _, froz_blk (hT.nodes.lies _ (h i (by omega))) _, _, _, rfl⟩
theorem Kb.alloc {own : Nat → Prop} {a w : World} (h : Kb own a w) (o : Obj) : Kb own a (w.alloc o) :=
  h.trans (Kb.of_below (Below.alloc (Below.refl _ w) (Nat.le_refl _) o))
theorem Kb.set {own : Nat → Prop} {a w : World} (h : Kb own a w) {s : Addr} (u : Value) (hb : own s.block ∨ a.heap.size ≤ s.block) : Kb own a (w.setCell s u) :=
  ⟨h.os, h.tape, h.output, by simp [World.setCell]; exact h.size, fun i hi ho => by
    rw [Below.heap_setCell _ _ _ _ (fun e => by
      rcases hb with h1 | h1
      · exact ho (e ▸ h1)
      · omega)]
    exact h.block i hi ho⟩
theorem Kb.step {own : Nat → Prop} {a b c : World} (h : Kb own a b) (k : Below b.heap.size b c) : Kb own a c := h.trans (Kb.of_below k)
theorem slotA_addB {bt : Nat} {blk : Way → Nat} {a : Int} {i : Nat} (b : Nat) : slotA bt (addB blk (wayA a i) b) a i = slotA bt blk a i := by
  cases i with
  | zero => rfl
  | succ i =>
    have : wayA a i ≠ wayA a (i + 1) := fun e => by have := congrArg List.length e; simp [wayA_len] at this
    show (⟨addB blk (wayA a (i + 1)) b (wayA a i), (bitB a i).toNat, none⟩ : Addr) = ⟨blk (wayA a i), (bitB a i).toNat, none⟩
    rw [show addB blk (wayA a (i + 1)) b (wayA a i) = blk (wayA a i) from if_neg this]
def ownN (own : Nat → Prop) (w w' : World) : Nat → Prop := fun b => own b ∨ (w.heap.size ≤ b ∧ b < w'.heap.size)

set_option maxHeartbeats 8000000 in
set_option maxRecDepth 100000 in
theorem put_not (w : World) (bt : Nat) (a b v : Int) (hM : addr_May.f a b = some false) :
    Calls Try.prog 33 #[.pointer (some ⟨bt, 0, none⟩), .agg #[.int .u32 a, .int .i64 b], .int .i64 v] w fun e w' => e = .returned (.tuple #[.bool false, .int .i64 1]) ∧ Below w.heap.size w w' := by
  have HM := mkHid hM
  have HB0 : Hid (Below w.heap.size w (w.alloc (.cells #[.int .u32 a, .int .i64 b] 34))) := Below.alloc (Below.refl _ w) (Nat.le_refl _) _
  clear hM
  go_enter Try.func33, Try.ntmps33
  go_wp2_with fail
  refine (addr_May.calls a b false _ HM.out).mono ?_
  rintro e w1 ⟨rfl, hb⟩
  have HB := mkHid (below_step HB0.out hb)
  clear hb
  go_wp2_with fail
  go_ret2
  exact ⟨rfl, HB.out⟩
set_option maxHeartbeats 8000000 in
set_option maxRecDepth 100000 in
theorem put_calls (w : World) (bt : Nat) (own : Nat → Prop) (n : Int) (m : Way → Option Int) (hT : Tri kI w bt own n m) (a : Int) (N : Nat) (v : Int) (h0 : 0 ≤ a) (h1 : a < 4294967296) (b1 : N ≤ 32) (n0 : 0 ≤ n) (n1 : n < 1000000) (hM : addr_May.f a N = some true) (n' : Int) (hn' : n' = if (m (wayA a N)).isSome = true then n else n + 1) :
    Calls Try.prog 33 #[.pointer (some ⟨bt, 0, none⟩), .agg #[.int .u32 a, .int .i64 N], .int .i64 v] w fun e w' => e = .returned (.tuple #[.bool (m (wayA a N)).isSome, .int .i64 0]) ∧
      Tri kI w' bt (ownN own w w') n' (putM m (wayA a N) (some v)) ∧ Kb own w w' := by
  have HM := mkHid hM
  have HN' := mkHid hn'
  clear hn'
  have HB0 : Hid (Below w.heap.size w (w.alloc (.cells #[.int .u32 a, .int .i64 N] 34))) := Below.alloc (Below.refl _ w) (Nat.le_refl _) _
  obtain ⟨D0, blk0, g1, g2, g3, g4⟩ := hT
  have G1 := mkHid g1
  have G2 := mkHid g2
  have G3 : Hid (own bt ∧ bt < w.heap.size) := ⟨g3, blk_lt g1.root⟩
  have G4 : Hid (∀ π, D0 π = true → own (blk0 π) ∧ blk0 π < w.heap.size) := fun π hp => ⟨g4 π hp, g1.nodes.lt hp⟩
  have hx0 : (w.alloc (.cells #[.int .u32 a, .int .i64 N] 34)).cell? ⟨w.heap.size, 0, none⟩ = some (.int .u32 a) := by go_simp
  have hx1 : (w.alloc (.cells #[.int .u32 a, .int .i64 N] 34)).cell? ⟨w.heap.size, 1, none⟩ = some (.int .i64 N) := by go_simp
  clear hM g1 g2 g3 g4
  go_enter Try.func33, Try.ntmps33
  go_wp2_with fail
  refine (addr_May.calls a N true _ HM.out).mono ?_
  rintro e w1 ⟨rfl, hb⟩
  have HB1 := mkHid (below_step HB0.out hb)
  have hs : w.heap.size < w1.heap.size := by have := hb.size; simp at this; omega
  have q0 : w1.cell? ⟨w.heap.size, 0, none⟩ = some (.int .u32 a) := (hb.cell (by simp)).trans hx0
  have q1 : w1.cell? ⟨w.heap.size, 1, none⟩ = some (.int .i64 N) := (hb.cell (by simp)).trans hx1
  have HT1 := mkHid (G1.out.below HB1.out)
  clear hb hx0 hx1 G1
  go_wp2_with fail
  go_loopg [8, 9] N (fun kq v8 v9 wr => ∃ (i : Nat) (D : Way → Bool) (blk : Way → Nat), v9 = .int .i64 i ∧ i ≤ N ∧ v8 = .pointer (some (slotA bt blk a i)) ∧ i + kq = N ∧ wr.cell? ⟨w.heap.size, 0, none⟩ = some (.int .u32 a) ∧ wr.cell? ⟨w.heap.size, 1, none⟩ = some (.int .i64 N) ∧ w.heap.size < wr.heap.size ∧ Hid (TrieAt kI wr bt n D m blk) ∧ Hid (∀ j, j < i → D (wayA a j) = true) ∧ Hid (∀ π, D π = true → (∃ ρ, (m (π ++ ρ)).isSome = true) ∨ ∃ j, j ≤ N ∧ π = wayA a j) ∧ Hid (∀ π, D π = true → (own (blk π) ∧ blk π < w.heap.size) ∨ w.heap.size < blk π) ∧ Hid (Kb own w wr))
  case atStart => exact ⟨0, D0, blk0, rfl, by omega, rfl, by omega, q0, q1, hs, HT1.out, fun j hj => absurd hj (by omega), fun π hp => .inl (G2.out π hp), fun π hp => .inl (G4.out π hp), Kb.of_below HB1.out⟩
  case round =>
    clear q0 q1 hs HT1 HB1 HB0 G2 G4
    obtain ⟨i, D, blk, rfl, hi, rfl, hk, q0, q1, hs, HT, HJ, HG, HO, HK⟩ := hrel
    obtain ⟨c0, c1, b, o, hsl⟩ := slotA_cell HT.out HJ.out
    have HSL := mkHid hsl
    have hbo : Hid ((own b ∧ b < w.heap.size) ∨ w.heap.size < b) := by
      have hsl := HSL.out
      cases i with
      | zero => injection hsl with e1 _ _; rw [← e1]; exact .inl G3.out
      | succ i => injection hsl with e1 _ _; rw [← e1]; exact HO.out _ (HJ.out i (by omega))
    have hbs : b ≠ w.heap.size := by rcases hbo.out with h | h <;> omega
    rw [hsl] at c0 c1
    rw [hsl]
    clear hsl
    cases hD : D (wayA a i)
    case' true =>
      rw [ptrT_some hD] at c0
      go_upto_region 8 with fail
      obtain ⟨W, hW⟩ : ∃ W, W = wr := ⟨_, rfl⟩
      obtain ⟨D1, hD1⟩ : ∃ D1, D1 = D := ⟨_, rfl⟩
      obtain ⟨blk1, hblk1⟩ : ∃ blk1, blk1 = blk := ⟨_, rfl⟩
      have HT2 : Hid (TrieAt kI W bt n D1 m blk1) := by rw [hW, hD1, hblk1]; exact HT.out
      have HSL1 : Hid (slotA bt blk1 a i = ⟨b, o, none⟩) := by rw [hblk1]; exact HSL.out
      have HJ1 : Hid (∀ j, j < i + 1 → D1 (wayA a j) = true) := fun j hj => by
        rw [hD1]
        by_cases e : j = i
        · rw [e]; exact hD
        · exact HJ.out j (by omega)
      have HG1 : Hid (∀ π, D1 π = true → (∃ ρ, (m (π ++ ρ)).isSome = true) ∨ ∃ j, j ≤ N ∧ π = wayA a j) := by rw [hD1]; exact HG.out
      have HO1 : Hid (∀ π, D1 π = true → (own (blk1 π) ∧ blk1 π < w.heap.size) ∨ w.heap.size < blk1 π) := by rw [hD1, hblk1]; exact HO.out
      have HK1 : Hid (Kb own w W) := by rw [hW]; exact HK.out
      have q0' : W.cell? ⟨w.heap.size, 0, none⟩ = some (.int .u32 a) := by rw [hW]; exact q0
      have q1' : W.cell? ⟨w.heap.size, 1, none⟩ = some (.int .i64 N) := by rw [hW]; exact q1
      have hs' : w.heap.size < W.heap.size := by rw [hW]; exact hs
      have c0' : W.cell? ⟨b, o, none⟩ = some (.pointer (some ⟨blk1 (wayA a i), 0, none⟩)) := by rw [hW, hblk1]; exact c0
      rw [← hW]
      clear hW hD hD1 hblk1 HJ HSL HT c1 c0 HG HO HK q0 q1 hs
    case' false =>
      rw [ptrT_none hD] at c0
      have HG0 := mkHid (HT.out.grow hD (by
        cases i with
        | zero => exact .inl rfl
        | succ i => exact .inr ⟨wayA a i, bitB a i, rfl, HJ.out i (by omega)⟩))
      have hbw : b < wr.heap.size := World.block_lt_of_cell? _ _ c0
      have hba : Hid (Below wr.heap.size wr (wr.alloc (.cells #[.pointer none, .pointer none, .bool false, .int .i64 0] 84))) := Below.alloc (Below.refl _ wr) (Nat.le_refl _) _
      have c2 : (wr.alloc (.cells #[.pointer none, .pointer none, .bool false, .int .i64 0] 84)).cell? ⟨b, o, none⟩ = some (.pointer none) := (hba.out.cell hbw).trans c0
      have c3 : (wr.alloc (.cells #[.pointer none, .pointer none, .bool false, .int .i64 0] 84)).frozen? ⟨b, o, none⟩ = false := (hba.out.frozen hbw).trans c1
      go_upto_region 8 with fail
      obtain ⟨W, hW⟩ : ∃ W, W = (wr.alloc (.cells #[.pointer none, .pointer none, .bool false, .int .i64 0] 84)).setCell ⟨b, o, none⟩ (.pointer (some ⟨wr.heap.size, 0, none⟩)) := ⟨_, rfl⟩
      obtain ⟨D1, hD1⟩ : ∃ D1, D1 = addD D (wayA a i) := ⟨_, rfl⟩
      obtain ⟨blk1, hblk1⟩ : ∃ blk1, blk1 = addB blk (wayA a i) wr.heap.size := ⟨_, rfl⟩
      have hcase : ∀ π, D1 π = true → π = wayA a i ∨ (D π = true ∧ π ≠ wayA a i) := fun π hp => by
        rw [hD1] at hp
        by_cases e : π = wayA a i
        · exact .inl e
        · exact .inr ⟨by unfold addD at hp; simpa [e] using hp, e⟩
      have hself : blk1 (wayA a i) = wr.heap.size := by rw [hblk1]; exact if_pos rfl
      have hother : ∀ π, π ≠ wayA a i → blk1 π = blk π := fun π hp => by rw [hblk1]; exact if_neg hp
      have HSL1 : Hid (slotA bt blk1 a i = ⟨b, o, none⟩) := by rw [hblk1]; exact (slotA_addB _).trans HSL.out
      have HJ1 : Hid (∀ j, j < i + 1 → D1 (wayA a j) = true) := fun j hj => by
        rw [hD1]
        by_cases e : j = i
        · rw [e]; exact addD_self _ _
        · exact addD_of (HJ.out j (by omega))
      have hisl : IsSlot bt D1 blk1 (wayA a i) ⟨b, o, none⟩ := by rw [← HSL1.out]; exact slotA_is (fun j hj => HJ1.out j (by omega))
      have hpt : ptrT D1 blk1 (wayA a i) = .pointer (some ⟨wr.heap.size, 0, none⟩) := by rw [ptrT_some (HJ1.out i (by omega)), hself]
      have HT2 : Hid (TrieAt kI W bt n D1 m blk1) := by
        have h := HG0.out
        rw [← hD1, ← hblk1] at h
        have h2 := h.set hisl
        rw [hpt] at h2
        rw [hW]; exact h2
      have HG1 : Hid (∀ π, D1 π = true → (∃ ρ, (m (π ++ ρ)).isSome = true) ∨ ∃ j, j ≤ N ∧ π = wayA a j) := fun π hp => by
        rcases hcase π hp with e | ⟨h, _⟩
        · exact .inr ⟨i, hi, e⟩
        · exact HG.out π h
      have HO1 : Hid (∀ π, D1 π = true → (own (blk1 π) ∧ blk1 π < w.heap.size) ∨ w.heap.size < blk1 π) := fun π hp => by
        rcases hcase π hp with e | ⟨h, e⟩
        · rw [e, hself]; exact .inr hs
        · rw [hother π e]; exact HO.out π h
      have HK1 : Hid (Kb own w W) := by
        rw [hW]
        exact (HK.out.alloc _).set _ (hbo.out.elim (fun h => .inl h.1) (fun h => .inr (Nat.le_of_lt h)))
      have q0' : W.cell? ⟨w.heap.size, 0, none⟩ = some (.int .u32 a) := by
        rw [hW, World.cell?_setCell_other _ _ _ _ (fun e => hbs (congrArg Addr.block e))]
        exact (hba.out.cell hs).trans q0
      have q1' : W.cell? ⟨w.heap.size, 1, none⟩ = some (.int .i64 N) := by
        rw [hW, World.cell?_setCell_other _ _ _ _ (fun e => hbs (congrArg Addr.block e))]
        exact (hba.out.cell hs).trans q1
      have hs' : w.heap.size < W.heap.size := by rw [hW]; simp [World.setCell]; omega
      have c0' : W.cell? ⟨b, o, none⟩ = some (.pointer (some ⟨blk1 (wayA a i), 0, none⟩)) := by
        rw [hself, hW]
        exact World.cell?_setCell_same _ _ _ c2
      rw [← World.setCell_alloc_past _ _ _ _ hbw, ← hW]
      clear hW hD1 hblk1 hcase hself hother hisl hpt c0 c1 c2 c3 hba HG0 HJ HSL HT HG HO HK q0 q1 hs hbw hD
    all_goals
      clear hbo hbs
      have hDi : D1 (wayA a i) = true := HJ1.out i (by omega)
      by_cases hin : i = N
      · subst hin
        obtain ⟨g, hg⟩ : ∃ g, g = blk1 (wayA a i) := ⟨_, rfl⟩
        have c2 : W.cell? ⟨g, 2, none⟩ = some (.bool (m (wayA a i)).isSome) := by rw [hg]; exact HT2.out.nodes.is hDi
        have c3 : W.cell? ⟨g, 3, none⟩ = some (.int .i64 ((m (wayA a i)).getD 0)) := by rw [hg]; exact HT2.out.nodes.val hDi
        have f2 : W.frozen? ⟨g, 2, none⟩ = false := by rw [hg]; exact froz_blk (HT2.out.nodes.lies _ hDi) _
        have f3 : W.frozen? ⟨g, 3, none⟩ = false := by rw [hg]; exact froz_blk (HT2.out.nodes.lies _ hDi) _
        have HT3 : Hid (TrieAt kI ((W.setCell ⟨g, 2, none⟩ (.bool true)).setCell ⟨g, 3, none⟩ (.int .i64 v)) bt n D1 (putM m (wayA a i) (some v)) blk1) := by rw [hg]; exact HT2.out.write hDi (some v)
        have hog : Hid (own g ∨ w.heap.size ≤ g) := by rw [hg]; exact (HO1.out _ hDi).elim (fun h => .inl h.1) (fun h => .inr (Nat.le_of_lt h))
        have HK3 : Hid (Kb own w ((W.setCell ⟨g, 2, none⟩ (.bool true)).setCell ⟨g, 3, none⟩ (.int .i64 v))) := (HK1.out.set _ hog.out).set _ hog.out
        have d1 := HT3.out.cell1
        have e1 : ((W.setCell ⟨g, 2, none⟩ (.bool true)).setCell ⟨g, 3, none⟩ (.int .i64 v)).frozen? ⟨bt, 1, none⟩ = false := froz_blk HT3.out.root 1
        have HGG : Hid (∀ π, D1 π = true → ∃ ρ, (putM m (wayA a i) (some v) (π ++ ρ)).isSome = true) := fun π hp => by
          have hw : ∀ j, j ≤ i → ∃ ρ, (putM m (wayA a i) (some v) (wayA a j ++ ρ)).isSome = true := fun j hj => by
            obtain ⟨ρ, hρ⟩ := wayA_split a hj
            exact ⟨ρ, by rw [← hρ, putM_self]; rfl⟩
          rcases HG1.out π hp with ⟨ρ, hr⟩ | ⟨j, hj, rfl⟩
          · by_cases e : π ++ ρ = wayA a i
            · exact ⟨ρ, by rw [e, putM_self]; rfl⟩
            · exact ⟨ρ, by rw [putM_ne e]; exact hr⟩
          · exact hw j hj
        have HLT : Hid (∀ π, D1 π = true → ownN own w ((W.setCell ⟨g, 2, none⟩ (.bool true)).setCell ⟨g, 3, none⟩ (.int .i64 v)) (blk1 π)) := fun π hp => by
          rcases HO1.out π hp with h | h
          · exact .inl h.1
          · exact .inr ⟨Nat.le_of_lt h, HT3.out.nodes.lt hp⟩
        have hwn : IntKind.i64.wrap (n + 1) = n + 1 := IntWalk.i64_in _ (by omega)
        rw [← hg] at c0'
        clear hDi HJ1 HSL1 HG1 HO1 HK1 hg HT2
        cases hm : (m (wayA a i)).isSome with
        | true =>
          rw [hm] at c2
          go_wp2_with fail
          go_ret2
          exact ⟨by rw [hm]; rfl, ⟨D1, blk1, by rw [show n' = n by have := HN'.out; rw [if_pos hm] at this; exact this]; exact HT3.out, HGG.out, .inl G3.out.1, HLT.out⟩, HK3.out⟩
        | false =>
          rw [hm] at c2
          go_wp2_with fail
          go_ret2
          exact ⟨by rw [hm]; rfl, ⟨D1, blk1, by rw [show n' = n + 1 by have := HN'.out; rw [if_neg (by rw [hm]; simp)] at this; exact this]; exact HT3.out.count (n + 1), HGG.out, .inl G3.out.1, fun π hp => by
            rcases HLT.out π hp with h | ⟨h, h2⟩
            · exact .inl h
            · exact .inr ⟨h, by simpa [World.setCell] using h2⟩⟩, HK3.out.set _ (.inl G3.out.1)⟩
      · have hk0 : W.cell? ⟨blk1 (wayA a i), 0, none⟩ = some (ptrT D1 blk1 (wayA a i ++ [false])) := HT2.out.nodes.kid hDi false
        have hk1 : W.cell? ⟨blk1 (wayA a i), 1, none⟩ = some (ptrT D1 blk1 (wayA a i ++ [true])) := HT2.out.nodes.kid hDi true
        have hbit : Hid (trie_bit.f a (i : Int) = some ((bitB a i).toNat : Int)) := tbit_ev a i h0 h1 (by omega)
        have hne : decide ((i : Int) = (N : Int)) = false := decide_eq_false (by omega)
        have hne' : ((i : Int) == (N : Int)) = false := beq_eq_false_iff_ne.mpr (by omega)
        clear hDi HSL1
        cases hB : bitB a i with
        | false =>
          rw [hB] at hbit
          go_upto_region 9 with fail
          go_quiet ((first | (go_at_call 45; (with_reducible refine (trie_bit.calls a i ((false.toNat : Nat) : Int) _ hbit.out).mono ?_); rintro e w' ⟨rfl, ⟨nd, rfl⟩⟩; (try first | exact ⟨rfl, _, World.drewN_drewN _ _ _⟩))))
          go_wp2_with fail
          go_roundg (gk - 1)
          case measure => omega
          case rel => exact ⟨i + 1, D1, blk1, rfl, by omega, by rw [show slotA bt blk1 a (i + 1) = ⟨blk1 (wayA a i), (bitB a i).toNat, none⟩ from rfl, hB]; rfl, by omega, q0', q1', hs', HT2.out.drewN _, HJ1.out, HG1.out, HO1.out, HK1.out.drewN _⟩
        | true =>
          rw [hB] at hbit
          go_upto_region 9 with fail
          go_quiet ((first | (go_at_call 45; (with_reducible refine (trie_bit.calls a i ((true.toNat : Nat) : Int) _ hbit.out).mono ?_); rintro e w' ⟨rfl, ⟨nd, rfl⟩⟩; (try first | exact ⟨rfl, _, World.drewN_drewN _ _ _⟩))))
          go_wp2_with fail
          go_roundg (gk - 1)
          case measure => omega
          case rel => exact ⟨i + 1, D1, blk1, rfl, by omega, by rw [show slotA bt blk1 a (i + 1) = ⟨blk1 (wayA a i), (bitB a i).toNat, none⟩ from rfl, hB]; rfl, by omega, q0', q1', hs', HT2.out.drewN _, HJ1.out, HG1.out, HO1.out, HK1.out.drewN _⟩
end Go.Proofs.Ytnihacajjpcjeaa

end
section
namespace Go.Proofs.Ytnihacajjpcjeaa
open Go.RowKit Go.Proofs.Ytnihacajjpcjeaa.P Go.Proofs.YtnihacajjpcjeaaW.PrintWords Go.Proofs.YtnihacajjpcjeaaW.PrintLast Go.Proofs.YtnihacajjpcjeaaW.PrintMore
set_option linter.unusedVariables false
set_option linter.unusedSimpArgs false

/-- the first i bits of an address -/
def adrA (a : Int) (i : Nat) : Int := a - a % 2 ^ (32 - i)
theorem adrA_zero (a : Int) (h0 : 0 ≤ a) (h1 : a < 4294967296) : adrA a 0 = 0 := by
  unfold adrA; rw [show (2 : Int) ^ (32 - 0) = 4294967296 by decide]; omega
theorem two_pow_step (i : Nat) (hi : i < 32) : (2 : Int) ^ (32 - i) = 2 * 2 ^ (31 - i) := by
  rw [show 32 - i = (31 - i) + 1 by omega, Int.pow_succ]; omega
theorem adrA_step (a : Int) (i : Nat) (hi : i < 32) : adrA a (i + 1) = adrA a i + (bitB a i).toNat * 2 ^ (31 - i) := by
  unfold adrA bitB
  rw [two_pow_step i hi, show 32 - (i + 1) = 31 - i by omega]
  obtain ⟨p, hp⟩ : ∃ p : Int, p = 2 ^ (31 - i) := ⟨_, rfl⟩
  have hpos : 0 < p := by rw [hp]; exact Int.pow_pos (by decide)
  rw [← hp]
  have e : a % (2 * p) = a % p + p * (a / p % 2) := by
    have k1 := Int.emod_add_mul_ediv a p
    have k2 := Int.emod_add_mul_ediv (a / p) 2
    have k3 := Int.emod_nonneg a (Int.ne_of_gt hpos)
    have k4 := Int.emod_lt_of_pos a hpos
    have k5 : a = (a % p + p * (a / p % 2)) + 2 * p * (a / p / 2) := by
      have k6 : p * (a / p) = p * (a / p % 2) + 2 * p * (a / p / 2) := by
        conv => lhs; rw [← k2]
        rw [Int.mul_add, Int.mul_comm 2 p, Int.mul_assoc]
      omega
    have k7 : 0 ≤ a % p + p * (a / p % 2) ∧ a % p + p * (a / p % 2) < 2 * p := by
      rcases Int.emod_two_eq (a / p) with h | h <;> rw [h] <;> omega
    conv => lhs; rw [k5]
    rw [Int.add_mul_emod_self_left]
    exact Int.emod_eq_of_lt k7.1 k7.2
  rw [e]
  rcases Int.emod_two_eq (a / p) with h | h
  · rw [h]; simp
  · rw [h]; simp; omega
theorem or_add (x y : Int) (k : Nat) (hk : k < 32) (h0 : 0 ≤ x) (h1 : x < 4294967296) (hx : x % 2 ^ (k + 1) = 0) (hy : y = 0 ∨ y = 1) : Go.bits .or .u32 x (y * 2 ^ k) = x + y * 2 ^ k := by
  obtain ⟨n, rfl⟩ := Int.eq_ofNat_of_zero_le h0
  obtain ⟨m, hm⟩ : ∃ m : Nat, y = m := ⟨y.toNat, by omega⟩
  have hm1 : m < 2 := by omega
  subst hm
  have e : ((m : Int) * 2 ^ k) = ((m * 2 ^ k : Nat) : Int) := by simp
  rw [e]
  show IntKind.u32.wrap ((BitVec.ofInt 32 (n : Int) ||| BitVec.ofInt 32 ((m * 2 ^ k : Nat) : Int)).toNat : Int) = _
  have hk2 : 2 ^ k ≤ 2 ^ 31 := Nat.pow_le_pow_right (by decide) (by omega)
  have hmk : m * 2 ^ k < 2 ^ 32 := by
    have : m * 2 ^ k ≤ 1 * 2 ^ k := Nat.mul_le_mul_right _ (by omega)
    omega
  have hn : n < 2 ^ 32 := by omega
  have hd : n % 2 ^ (k + 1) = 0 := by
    have : ((n % 2 ^ (k + 1) : Nat) : Int) = 0 := by rw [← hx]; simp
    omega
  have hor : n ||| (m * 2 ^ k) = n + m * 2 ^ k := by
    obtain ⟨q, hq⟩ : ∃ q, n = 2 ^ (k + 1) * q := ⟨n / 2 ^ (k + 1), by have := Nat.div_add_mod n (2 ^ (k + 1)); rw [hd] at this; omega⟩
    have hb : m * 2 ^ k < 2 ^ (k + 1) := by
      rw [Nat.pow_succ]
      have : m * 2 ^ k ≤ 1 * 2 ^ k := Nat.mul_le_mul_right _ (by omega)
      have := Nat.two_pow_pos k
      omega
    rw [hq, ← Nat.two_pow_add_eq_or_of_lt hb]
  rw [IntKind.wrap_u32, ofN, ofN, BitVec.toNat_or, BitVec.toNat_ofNat, BitVec.toNat_ofNat, Nat.mod_eq_of_lt hn, Nat.mod_eq_of_lt hmk, hor]
  have hlt : n + m * 2 ^ k < 2 ^ 32 := by
    rw [← hor]; exact Nat.or_lt_two_pow hn hmk
  omega
theorem adrA_bound (a : Int) (i : Nat) (h0 : 0 ≤ a) (h1 : a < 4294967296) : 0 ≤ adrA a i ∧ adrA a i ≤ a := by
  unfold adrA
  have hpos : (0 : Int) < 2 ^ (32 - i) := Int.pow_pos (by decide)
  have h2 := Int.emod_nonneg a (Int.ne_of_gt hpos)
  have h3 : a % 2 ^ (32 - i) ≤ a := by
    have := Int.emod_add_mul_ediv a (2 ^ (32 - i))
    have := Int.mul_nonneg (Int.le_of_lt hpos) (Int.ediv_nonneg h0 (Int.le_of_lt hpos))
    omega
  omega
theorem adrA_mod (a : Int) (i : Nat) : adrA a i % 2 ^ (32 - i) = 0 := by
  unfold adrA
  rw [Int.sub_emod, Int.emod_emod_of_dvd _ (Int.dvd_refl _), Int.sub_self, Int.zero_emod]
theorem shl_bit (y : Int) (k : Nat) (hk : k < 32) (hy : y = 0 ∨ y = 1) : shl .u32 y (k : Int) = y * 2 ^ k := by
  show IntKind.u32.wrap (y * 2 ^ min ((k : Int)).toNat 32) = _
  rw [Int.toNat_natCast, Nat.min_eq_left (by omega), IntKind.wrap_u32]
  have hk2 : 2 ^ k ≤ 2 ^ 31 := Nat.pow_le_pow_right (by decide) (by omega)
  have hk3 : (2 : Int) ^ k ≤ 2147483648 := by
    have : ((2 ^ k : Nat) : Int) ≤ 2147483648 := by omega
    simpa using this
  have hpos : (0 : Int) < 2 ^ k := Int.pow_pos (by decide)
  rcases hy with rfl | rfl
  · simp
  · rw [Int.one_mul]; omega
theorem adrA_or0 (a : Int) (i : Nat) (hi : i < 32) (h0 : 0 ≤ a) (h1 : a < 4294967296) (hb : bitB a i = false) : Go.bits .or .u32 (adrA a i) 0 = adrA a (i + 1) := by
  have h := or_add (adrA a i) 0 (31 - i) (by omega) (adrA_bound a i h0 h1).1 (by have := (adrA_bound a i h0 h1).2; omega) (by rw [show 31 - i + 1 = 32 - i by omega]; exact adrA_mod a i) (.inl rfl)
  rw [Int.zero_mul] at h
  rw [h, adrA_step a i hi, hb]
  simp
theorem adrA_or1 (a : Int) (i : Nat) (hi : i < 32) (h0 : 0 ≤ a) (h1 : a < 4294967296) (hb : bitB a i = true) : Go.bits .or .u32 (adrA a i) (2 ^ (31 - i) % 4294967296) = adrA a (i + 1) := by
  have h := or_add (adrA a i) 1 (31 - i) (by omega) (adrA_bound a i h0 h1).1 (by have := (adrA_bound a i h0 h1).2; omega) (by rw [show 31 - i + 1 = 32 - i by omega]; exact adrA_mod a i) (.inr rfl)
  rw [Int.one_mul] at h
  have e := shl_bit 1 (31 - i) (by omega) (.inr rfl)
  rw [Int.one_mul] at e
  have e2 : (2 : Int) ^ (31 - i) % 4294967296 = 2 ^ (31 - i) := by
    have hk2 : 2 ^ (31 - i) ≤ 2 ^ 31 := Nat.pow_le_pow_right (by decide) (by omega)
    have hk3 : (2 : Int) ^ (31 - i) ≤ 2147483648 := by
      have : ((2 ^ (31 - i) : Nat) : Int) ≤ 2147483648 := by omega
      simpa using this
    have hpos : (0 : Int) < 2 ^ (31 - i) := Int.pow_pos (by decide)
    omega
  rw [e2, h, adrA_step a i hi, hb]
  simp
end Go.Proofs.Ytnihacajjpcjeaa

end
section
set_option linter.unusedVariables false
set_option linter.unusedSimpArgs false
namespace Go.Proofs.Ytnihacajjpcjeaa.P
open Go.RowKit Go.Proofs.YtnihacajjpcjeaaW.PrintWords Go.Proofs.YtnihacajjpcjeaaW.PrintLast Go.Proofs.YtnihacajjpcjeaaW.PrintMore

/-- how many addresses a prefix of so many bits has -/
def un (b : Int) : Int := 2 ^ (32 - b).toNat
theorem un_pos (b : Int) : 0 < un b := by
  unfold un
  have := Nat.two_pow_pos (32 - b).toNat
  have h2 : (0 : Int) < (((2 : Nat) ^ (32 - b).toNat : Nat) : Int) := by exact_mod_cast this
  simpa using h2
theorem un_succ (b : Int) (h : b < 32) : un b = 2 * un (b + 1) := by
  unfold un
  rw [show (32 - b).toNat = (32 - (b + 1)).toNat + 1 by omega, Int.pow_succ]; omega
/-- an address -/
def isA (a : Int) : Prop := 0 ≤ a ∧ a ≤ 4294967295
/-- may a prefix be? -/
def mayB (a b : Int) : Bool := decide (0 ≤ b) && (decide (b ≤ 32) && decide (a % un b = 0))
theorem mayB_iff (a b : Int) : mayB a b = true ↔ 0 ≤ b ∧ b ≤ 32 ∧ a % un b = 0 := by
  unfold mayB; simp
theorem mask_is (b : Int) (h0 : 0 ≤ b) (h1 : b ≤ 32) : addr_mask.f b = some (4294967296 - un b) := by
  unfold addr_mask.f
  by_cases h : b = 0
  · subst h; rfl
  · rw [if_neg h, wrap64_in _ (by omega) (by omega), if_pos (by omega)]
    have := shl_all (32 - b).toNat (by omega)
    rw [show (((32 - b).toNat : Nat) : Int) = 32 - b by omega] at this
    rw [this]; rfl
theorem may_is (a b : Int) (ha : isA a) : addr_May.f a b = some (mayB a b) := by
  unfold addr_May.f mayB
  by_cases h0 : 0 ≤ b
  · rw [if_pos h0]
    by_cases h1 : b ≤ 32
    · rw [if_pos h1, mask_is b h0 h1, Option.bind_some]
      have := andNot_mask a (32 - b).toNat ha.1 (by have := ha.2; omega) (by omega)
      unfold un
      rw [this]
      simp [h0, h1]
      rfl
    · rw [if_neg h1]; simp [h0, h1]
  · rw [if_neg h0]; simp [h0]
end Go.Proofs.Ytnihacajjpcjeaa.P

end
section
set_option linter.unusedVariables false
set_option linter.unusedSimpArgs false
namespace Go.Proofs.Ytnihacajjpcjeaa.P
open Go.RowKit Go.Proofs.YtnihacajjpcjeaaW.PrintWords Go.Proofs.YtnihacajjpcjeaaW.PrintLast Go.Proofs.YtnihacajjpcjeaaW.PrintMore

/-- the bit of an address at a place -/
def bitI (a i : Int) : Int := a / un (i + 1) % 2
theorem bit_ev : ∀ (d : Nat) (a i : Int), 0 ≤ a → a ≤ 4294967295 → 0 ≤ i → i ≤ 31 → 31 - i = d → Evt (fun k => whirligigref01_Bit.l0 k a i) (bitI a i) := by
  intro d
  induction d with
  | zero =>
    intro a i h0 h1 h2 h3 hd
    obtain rfl : i = 31 := by omega
    refine Evt.step ?_
    simp only [whirligigref01_Bit.l0]
    refine Evt.ite_neg (by omega) (Evt.of fun k => ?_)
    unfold bitI un
    rw [Int.tmod_eq_emod_of_nonneg h0]
    simp
  | succ d ih =>
    intro a i h0 h1 h2 h3 hd
    refine Evt.step ?_
    simp only [whirligigref01_Bit.l0]
    refine Evt.ite_pos (by omega) ?_
    rw [Int.tdiv_eq_ediv_of_nonneg h0, wrap64_in _ (by omega) (by omega), Int.emod_eq_of_lt (by omega) (by omega)]
    have := ih (a / 2) (i + 1) (by omega) (by omega) (by omega) (by omega) (by omega)
    have e : bitI (a / 2) (i + 1) = bitI a i := by
      unfold bitI
      rw [un_succ (i + 1) (by omega), Int.ediv_ediv_of_nonneg (by decide)]
    rw [e] at this
    exact this
theorem refBit_ev (a i : Int) (ha : isA a) (h2 : 0 ≤ i) (h3 : i ≤ 31) : Evt (fun k => whirligigref01_Bit.f k a i) (bitI a i) :=
  bit_ev (31 - i).toNat a i ha.1 ha.2 h2 h3 (by omega)
theorem mod_un (a i : Int) (h : 0 ≤ a) (h1 : i ≤ 31) : a % un i = a % un (i + 1) + un (i + 1) * bitI a i := by
  have hp := un_pos (i + 1)
  rw [un_succ i (by omega)]
  unfold bitI
  have e1 := Int.emod_add_mul_ediv a (un (i + 1))
  have e2 := Int.emod_add_mul_ediv a (2 * un (i + 1))
  have e3 := Int.emod_add_mul_ediv (a / un (i + 1)) 2
  have e4 : a / un (i + 1) / 2 = a / (2 * un (i + 1)) := by rw [Int.ediv_ediv_of_nonneg (Int.le_of_lt hp), Int.mul_comm]
  rw [e4] at e3
  generalize a / (2 * un (i + 1)) = q at *
  generalize a / un (i + 1) % 2 = s at *
  generalize a / un (i + 1) = p at *
  generalize un (i + 1) = u at *
  have e5 : u * p = u * s + 2 * u * q := by
    rw [← e3, Int.mul_add, ← Int.mul_assoc, Int.mul_comm u 2]
  omega
theorem refMayLoop_ev : ∀ (d : Nat) (a i b : Int), isA a → 0 ≤ i → i ≤ 32 → 32 - i = d → Evt (fun k => whirligigref01_May.l0 k i a b) (decide (a % un i = 0)) := by
  intro d
  induction d with
  | zero =>
    intro a i b ha h0 h1 hd
    obtain rfl : i = 32 := by omega
    refine Evt.step ?_
    simp only [whirligigref01_May.l0]
    refine Evt.ite_neg (by omega) (Evt.of fun k => ?_)
    have : a % un 32 = 0 := by show a % 1 = 0; omega
    rw [this]; rfl
  | succ d ih =>
    intro a i b ha h0 h1 hd
    refine Evt.step ?_
    simp only [whirligigref01_May.l0]
    refine Evt.ite_pos (by omega) ?_
    refine Evt.bind (refBit_ev a i ha h0 (by omega)) ?_
    have hm := mod_un a i ha.1 (by omega)
    have hp := un_pos (i + 1)
    have hr : 0 ≤ a % un (i + 1) := Int.emod_nonneg _ (by omega)
    by_cases hb : bitI a i = 0
    · refine Evt.ite_pos hb ?_
      rw [wrap64_in _ (by omega) (by omega)]
      have := ih a (i + 1) b ha (by omega) (by omega) (by omega)
      rw [hb, Int.mul_zero, Int.add_zero] at hm
      rw [hm]; exact this
    · refine Evt.ite_neg hb (Evt.of fun k => ?_)
      have hb1 : bitI a i = 1 := by unfold bitI at *; omega
      rw [hb1, Int.mul_one] at hm
      rw [decide_eq_false (by omega)]
theorem refMay_ev (a b : Int) (ha : isA a) : Evt (fun k => whirligigref01_May.f k a b) (mayB a b) := by
  unfold whirligigref01_May.f mayB
  by_cases h0 : b < 0
  · refine Evt.ite_pos h0 (Evt.step ?_)
    simp only [whirligigref01_May.j0]
    refine Evt.ite_pos (by simp) (Evt.of fun k => ?_)
    rw [decide_eq_false (by omega : ¬ 0 ≤ b)]; rfl
  · refine Evt.ite_neg h0 (Evt.step ?_)
    simp only [whirligigref01_May.j0]
    by_cases h1 : b > 32
    · refine Evt.ite_pos (decide_eq_true h1) (Evt.of fun k => ?_)
      rw [decide_eq_false (by omega : ¬ b ≤ 32)]; simp
    · refine Evt.ite_neg (by simpa using h1) ?_
      have := refMayLoop_ev (32 - b).toNat a b b ha (by omega) (by omega) (by omega)
      rw [decide_eq_true (by omega : 0 ≤ b), decide_eq_true (by omega : b ≤ 32)]
      exact this
end Go.Proofs.Ytnihacajjpcjeaa.P

end
section
namespace Go.Proofs.Ytnihacajjpcjeaa
open Go.RowKit Go.Proofs.Ytnihacajjpcjeaa.P Go.Proofs.YtnihacajjpcjeaaW.PrintWords Go.Proofs.YtnihacajjpcjeaaW.PrintLast Go.Proofs.YtnihacajjpcjeaaW.PrintMore
set_option linter.unusedVariables false
set_option linter.unusedSimpArgs false

def okP (x : S34) : Prop := isA x.f0 ∧ mayB x.f0 x.f1 = true
def wayP (x : S34) : Way := wayA x.f0 x.f1.toNat
def befP (x y : S34) : Prop := x.f0 < y.f0 ∨ (x.f0 = y.f0 ∧ x.f1 < y.f1)
def bef (x y : S43) : Prop := befP x.f0 y.f0
/-- the list l stands for the values m -/
structure Rel (m : Way → Option Int) (l : List S43) : Prop where
  srt : l.Pairwise bef
  ok : ∀ x ∈ l, okP x.f0 ∧ m (wayP x.f0) = some x.f1
  all : ∀ π v, m π = some v → ∃ x ∈ l, wayP x.f0 = π
theorem befP_trans {x y z : S34} (h : befP x y) (k : befP y z) : befP x z := by unfold befP at *; omega
theorem befP_irr {x : S34} (h : befP x x) : False := by unfold befP at h; omega
theorem befP_ne {x y : S34} (h : befP x y) : x ≠ y := fun e => by rw [e] at h; exact befP_irr h
theorem S34_ext {x y : S34} (h0 : x.f0 = y.f0) (h1 : x.f1 = y.f1) : x = y := by cases x; cases y; simp_all
theorem befP_tri (x y : S34) : x = y ∨ befP x y ∨ befP y x := by
  by_cases h : x.f0 = y.f0
  · by_cases k : x.f1 = y.f1
    · exact .inl (S34_ext h k)
    · unfold befP; omega
  · unfold befP; omega
theorem adrA_way {a b : Int} : ∀ n : Nat, n ≤ 32 → 0 ≤ a → a < 4294967296 → 0 ≤ b → b < 4294967296 → wayA a n = wayA b n → adrA a n = adrA b n := by
  intro n
  induction n with
  | zero => intro _ a0 a1 b0 b1 _; rw [adrA_zero a a0 a1, adrA_zero b b0 b1]
  | succ n ih =>
    intro hn a0 a1 b0 b1 h
    have h2 := List.append_inj' (show wayA a n ++ [bitB a n] = wayA b n ++ [bitB b n] from h) rfl
    have h3 : bitB a n = bitB b n := by simpa using h2.2
    rw [adrA_step a n (by omega), adrA_step b n (by omega), h3, ih (by omega) a0 a1 b0 b1 h2.1]
theorem okP_bits {x : S34} (h : okP x) : 0 ≤ x.f1 ∧ x.f1 ≤ 32 := by
  have := (mayB_iff _ _).1 h.2; exact ⟨this.1, this.2.1⟩
theorem okP_adr {x : S34} (h : okP x) : adrA x.f0 x.f1.toNat = x.f0 := by
  obtain ⟨b0, b1, b2⟩ := (mayB_iff _ _).1 h.2
  unfold adrA
  unfold un at b2
  rw [show 32 - x.f1.toNat = (32 - x.f1).toNat by omega, b2]; omega
theorem wayP_inj {x y : S34} (hx : okP x) (hy : okP y) (h : wayP x = wayP y) : x = y := by
  have hl := congrArg List.length h
  unfold wayP at hl
  rw [wayA_len, wayA_len] at hl
  have bx := okP_bits hx
  have bY := okP_bits hy
  have e1 : x.f1 = y.f1 := by omega
  refine S34_ext ?_ e1
  unfold wayP at h
  rw [← okP_adr hx, ← okP_adr hy, ← hl]
  rw [← hl] at h
  exact adrA_way _ (by omega) hx.1.1 (by have := hx.1.2; omega) hy.1.1 (by have := hy.1.2; omega) h
instance : DecidableEq S34 := fun x y => if h : x.f0 = y.f0 ∧ x.f1 = y.f1 then isTrue (S34_ext h.1 h.2) else isFalse (fun e => h (by rw [e]; exact ⟨rfl, rfl⟩))
instance (x y : S34) : Decidable (befP x y) := by unfold befP; infer_instance
/-- what At tells -/
def atL (p : S34) : List S43 → Nat × Bool
  | [] => (0, false)
  | x :: r => if x.f0 = p then (0, true) else if befP p x.f0 then (0, false) else ((atL p r).1 + 1, (atL p r).2)
theorem atL_spec (p : S34) : ∀ l : List S43, l.Pairwise bef → ∃ u t : List S43, (atL p l).1 = u.length ∧ (∀ y ∈ u, befP y.f0 p) ∧ (∀ y ∈ t, befP p y.f0) ∧
    (((atL p l).2 = true ∧ ∃ x, x.f0 = p ∧ l = u ++ x :: t) ∨ ((atL p l).2 = false ∧ l = u ++ t)) := by
  intro l
  induction l with
  | nil => intro _; exact ⟨[], [], rfl, by simp, by simp, .inr ⟨rfl, rfl⟩⟩
  | cons x r ih =>
    intro hs
    obtain ⟨hx, hr⟩ := List.pairwise_cons.1 hs
    by_cases e : x.f0 = p
    · refine ⟨[], r, by simp [atL, e], by simp, fun y hy => ?_, .inl ⟨by simp [atL, e], x, e, rfl⟩⟩
      have := hx y hy; unfold bef at this; rw [e] at this; exact this
    · by_cases b : befP p x.f0
      · refine ⟨[], x :: r, by simp [atL, e, b], by simp, fun y hy => ?_, .inr ⟨by simp [atL, e, b], rfl⟩⟩
        rcases List.mem_cons.1 hy with rfl | hy
        · exact b
        · exact befP_trans b (hx y hy)
      · obtain ⟨u, t, h1, h2, h3, h4⟩ := ih hr
        have hxp : befP x.f0 p := by rcases befP_tri x.f0 p with h | h | h; exact absurd h e; exact h; exact absurd h b
        have e1 : (atL p (x :: r)).1 = (atL p r).1 + 1 := by simp [atL, e, b]
        have e2 : (atL p (x :: r)).2 = (atL p r).2 := by simp [atL, e, b]
        refine ⟨x :: u, t, by rw [e1, h1]; rfl, fun y hy => ?_, h3, ?_⟩
        · rcases List.mem_cons.1 hy with rfl | hy
          · exact hxp
          · exact h2 y hy
        · rw [e2]
          rcases h4 with ⟨k1, x', k2, k3⟩ | ⟨k1, k2⟩
          · exact .inl ⟨k1, x', k2, by rw [k3]; rfl⟩
          · exact .inr ⟨k1, by rw [k2]; rfl⟩
theorem before_is (a b c d : Int) : whirligigref01_Before.f a b c d = some (decide (befP ⟨a, b⟩ ⟨c, d⟩)) := by
  unfold whirligigref01_Before.f befP
  split
  · rename_i h; subst h; simp
  · rename_i h; simp [h]
theorem at_loop (l : List S43) (a b : Int) (hl : l.length ≤ 1000000) : ∀ (r : List S43) (i : Nat), l.drop i = r → i ≤ l.length → Evt (fun k => whirligigref06_At.l0 k l i a b) (((i + (atL ⟨a, b⟩ r).1 : Nat) : Int), (atL ⟨a, b⟩ r).2) := by
  intro r
  induction r with
  | nil =>
    intro i h hi
    have : l.length ≤ i := List.drop_eq_nil_iff.1 h
    refine Evt.step ?_
    simp only [whirligigref06_At.l0]
    refine Evt.ite_neg (by omega) ?_
    simp only [atL]
    have e : ((l.length : Nat) : Int) = ((i + 0 : Nat) : Int) := by omega
    rw [e]; exact Evt.pure _
  | cons x r ih =>
    intro i h hi
    have hlt : i < l.length := by
      rcases Nat.lt_or_ge i l.length with h1 | h1
      · exact h1
      · rw [List.drop_eq_nil_of_le h1] at h; cases h
    have hx : l[i]? = some x := by
      have := List.drop_eq_getElem_cons hlt
      rw [this] at h; injection h with h1 _; rw [List.getElem?_eq_getElem hlt, h1]
    have hr : l.drop (i + 1) = r := by
      have := List.drop_eq_getElem_cons hlt
      rw [this] at h; injection h
    have hrd : rd_T43 l (i : Int) = x := by unfold rd_T43; rw [Int.toNat_natCast, List.getD_eq_getElem?_getD, hx]; rfl
    refine Evt.step ?_
    simp only [whirligigref06_At.l0]
    refine Evt.ite_pos (by omega) (Evt.ite_pos (by omega) ?_)
    rw [hrd]
    by_cases e : x.f0 = ⟨a, b⟩
    · have e0 : x.f0.f0 = a := by rw [e]
      have e1 : x.f0.f1 = b := by rw [e]
      refine Evt.ite_pos (by simp [e0, e1]) ?_
      simp only [atL, if_pos e]
      exact Evt.pure _
    · refine Evt.ite_neg (fun hh => e (by
        simp only [Bool.and_eq_true, beq_iff_eq] at hh
        exact S34_ext hh.1 hh.2)) ?_
      refine Evt.bindc (before_is _ _ _ _) ?_
      by_cases c : befP ⟨a, b⟩ x.f0
      · refine Evt.ite_pos (by simpa using c) ?_
        simp only [atL, if_neg e, if_pos c]
        exact Evt.pure _
      · refine Evt.ite_neg (by simpa using c) ?_
        have hw : wrap64 ((i : Int) + 1) = ((i + 1 : Nat) : Int) := by rw [wrap64_in _ (by omega) (by omega)]; omega
        rw [hw]
        have := ih (i + 1) hr (by omega)
        simp only [atL, if_neg e, if_neg c]
        rw [show i + ((atL ⟨a, b⟩ r).1 + 1) = i + 1 + (atL ⟨a, b⟩ r).1 by omega]
        exact this
theorem at_ev (l : List S43) (a b : Int) (hl : l.length ≤ 1000000) : Evt (fun k => whirligigref06_At.f k l a b) (((atL ⟨a, b⟩ l).1 : Int), (atL ⟨a, b⟩ l).2) := by
  have := at_loop l a b hl l 0 rfl (by omega)
  rw [Nat.zero_add] at this
  exact this
theorem rel_nil : Rel (fun _ => none) [] := ⟨List.Pairwise.nil, fun _ h => (by simp at h), fun _ _ h => (by cases h)⟩
theorem put_ev (l : List S43) (a b v : Int) (hl : l.length ≤ 1000) {u t : List S43} (h1 : (atL ⟨a, b⟩ l).1 = u.length)
    (h4 : ((atL ⟨a, b⟩ l).2 = true ∧ ∃ x : S43, x.f0 = ⟨a, b⟩ ∧ l = u ++ x :: t) ∨ ((atL ⟨a, b⟩ l).2 = false ∧ l = u ++ t)) :
    Evt (fun k => whirligigref06_Put.f k l a b v) (u ++ [⟨⟨a, b⟩, v⟩] ++ t, (atL ⟨a, b⟩ l).2) := by
  unfold whirligigref06_Put.f
  refine Evt.bind (at_ev l a b (by omega)) ?_
  have hul : u.length ≤ l.length := by
    rcases h4 with ⟨_, x, _, h⟩ | ⟨_, h⟩ <;> rw [h] <;> simp
  have htk : l.take u.length = u := by
    rcases h4 with ⟨_, x, _, h⟩ | ⟨_, h⟩ <;> rw [h, List.take_left]
  refine Evt.ite_pos (by omega) (Evt.ite_pos (by rw [h1]; omega) ?_)
  refine Evt.bindc rfl ?_
  rw [h1, Int.toNat_natCast, htk]
  refine Evt.ite_pos (by simp; omega) (Evt.bindc rfl (Evt.ite_pos (by simp; omega) (Evt.bindc rfl ?_)))
  rcases h4 with ⟨hb, x, hx, h⟩ | ⟨hb, h⟩
  · rw [hb]
    have hw : wrap64 ((u.length : Int) + 1) = ((u.length + 1 : Nat) : Int) := by rw [wrap64_in _ (by omega) (by omega)]; omega
    have hd : l.drop (u.length + 1) = t := by
      rw [h, ← List.drop_drop]; simp
    have hlt : u.length + 1 ≤ l.length := by rw [h]; simp
    have hlt2 : t.length ≤ l.length := by rw [h]; simp; omega
    refine Evt.ite_pos rfl (Evt.ite_pos (by rw [hw]; omega) (Evt.ite_pos (by rw [hw]; omega) (Evt.bindc rfl ?_)))
    rw [hw, Int.toNat_natCast, hd]
    refine Evt.ite_pos (by simp; omega) ?_
    rw [List.nil_append]
    exact Evt.pure _
  · rw [hb]
    have hd : l.drop u.length = t := by rw [h]; simp
    have hlt2 : t.length ≤ l.length := by rw [h]; simp
    refine Evt.ite_neg (by simp) (Evt.bindc rfl ?_)
    rw [hd]
    refine Evt.ite_pos (by simp; omega) ?_
    rw [List.nil_append]
    exact Evt.pure _
theorem drop_ev (l : List S43) (a b : Int) (hl : l.length ≤ 1000) {u t : List S43} (h1 : (atL ⟨a, b⟩ l).1 = u.length)
    (h4 : ((atL ⟨a, b⟩ l).2 = true ∧ ∃ x : S43, x.f0 = ⟨a, b⟩ ∧ l = u ++ x :: t) ∨ ((atL ⟨a, b⟩ l).2 = false ∧ l = u ++ t)) :
    Evt (fun k => whirligigref06_Drop.f k l a b) (u ++ t, (atL ⟨a, b⟩ l).2) := by
  unfold whirligigref06_Drop.f
  refine Evt.bind (at_ev l a b (by omega)) ?_
  rcases h4 with ⟨hb, x, hx, h⟩ | ⟨hb, h⟩
  · have hul : u.length ≤ l.length := by rw [h]; simp
    have htk : l.take u.length = u := by rw [h, List.take_left]
    rw [hb]
    have hw : wrap64 ((u.length : Int) + 1) = ((u.length + 1 : Nat) : Int) := by rw [wrap64_in _ (by omega) (by omega)]; omega
    have hd : l.drop (u.length + 1) = t := by
      rw [h, ← List.drop_drop]; simp
    have hlt : u.length + 1 ≤ l.length := by rw [h]; simp
    have hlt2 : t.length ≤ l.length := by rw [h]; simp; omega
    refine Evt.ite_pos rfl (Evt.ite_pos (by omega) (Evt.ite_pos (by rw [h1]; omega) (Evt.bindc rfl ?_)))
    rw [h1, Int.toNat_natCast, htk]
    refine Evt.ite_pos (by simp; omega) (Evt.bindc rfl ?_)
    refine Evt.ite_pos (by rw [hw]; omega) (Evt.ite_pos (by rw [hw]; omega) (Evt.bindc rfl ?_))
    rw [hw, Int.toNat_natCast, hd]
    refine Evt.ite_pos (by simp; omega) ?_
    rw [List.nil_append]
    exact Evt.pure _
  · rw [hb, h]
    exact Evt.ite_neg (by simp) (Evt.pure _)
section
variable {m : Way → Option Int} {l u t : List S43} {p : S34}
theorem at_mem (hR : Rel m l) (hp : okP p) (h2 : ∀ y ∈ u, befP y.f0 p) (h3 : ∀ y ∈ t, befP p y.f0)
    (h4 : ((atL p l).2 = true ∧ ∃ x : S43, x.f0 = p ∧ l = u ++ x :: t) ∨ ((atL p l).2 = false ∧ l = u ++ t)) : (m (wayP p)).isSome = (atL p l).2 := by
  rcases h4 with ⟨hb, x, hx, h⟩ | ⟨hb, h⟩
  · rw [hb]
    have := (hR.ok x (by rw [h]; simp)).2
    rw [hx] at this
    rw [this]; rfl
  · rw [hb]
    cases hm : m (wayP p) with
    | none => rfl
    | some v =>
      obtain ⟨y, hy, hw⟩ := hR.all _ _ hm
      have e := wayP_inj (hR.ok y hy).1 hp hw
      rw [h] at hy
      rcases List.mem_append.1 hy with hy | hy
      · exact absurd e (befP_ne (h2 y hy))
      · exact absurd e.symm (befP_ne (h3 y hy))
theorem rest_rel (hR : Rel m l) (hp : okP p) (h2 : ∀ y ∈ u, befP y.f0 p) (h3 : ∀ y ∈ t, befP p y.f0)
    (h4 : ((atL p l).2 = true ∧ ∃ x : S43, x.f0 = p ∧ l = u ++ x :: t) ∨ ((atL p l).2 = false ∧ l = u ++ t)) :
    (u ++ t).Pairwise bef ∧ (∀ x ∈ u ++ t, okP x.f0 ∧ x.f0 ≠ p ∧ m (wayP x.f0) = some x.f1) ∧ ∀ π v, π ≠ wayP p → m π = some v → ∃ x ∈ u ++ t, wayP x.f0 = π := by
  have hsub : (u ++ t).Sublist l := by
    rcases h4 with ⟨_, x, _, h⟩ | ⟨_, h⟩ <;> rw [h]
    · exact List.Sublist.append (List.Sublist.refl _) (List.sublist_cons_self _ _)
    · exact List.Sublist.refl _
  refine ⟨hR.srt.sublist hsub, fun x hx => ⟨(hR.ok x (hsub.subset hx)).1, ?_, (hR.ok x (hsub.subset hx)).2⟩, fun π v hne hm => ?_⟩
  · rcases List.mem_append.1 hx with hx | hx
    · exact befP_ne (h2 x hx)
    · exact (befP_ne (h3 x hx)).symm
  · obtain ⟨x, hx, hw⟩ := hR.all π v hm
    refine ⟨x, ?_, hw⟩
    rcases h4 with ⟨_, y, hy, h⟩ | ⟨_, h⟩ <;> rw [h] at hx
    · rcases List.mem_append.1 hx with hx | hx
      · exact List.mem_append_left _ hx
      · rcases List.mem_cons.1 hx with rfl | hx
        · rw [hy] at hw; exact absurd hw.symm hne
        · exact List.mem_append_right _ hx
    · exact hx
theorem rel_put (hR : Rel m l) (hp : okP p) (v : Int) (h2 : ∀ y ∈ u, befP y.f0 p) (h3 : ∀ y ∈ t, befP p y.f0)
    (h4 : ((atL p l).2 = true ∧ ∃ x : S43, x.f0 = p ∧ l = u ++ x :: t) ∨ ((atL p l).2 = false ∧ l = u ++ t)) : Rel (putM m (wayP p) (some v)) (u ++ [⟨p, v⟩] ++ t) := by
  obtain ⟨k1, k2, k3⟩ := rest_rel hR hp h2 h3 h4
  obtain ⟨s1, s2, s3⟩ := List.pairwise_append.1 k1
  refine ⟨?_, fun x hx => ?_, fun π w hm => ?_⟩
  · rw [List.append_assoc]
    refine List.pairwise_append.2 ⟨s1, ?_, fun x hx y hy => ?_⟩
    · exact List.pairwise_cons.2 ⟨fun y hy => h3 y hy, s2⟩
    · rcases List.mem_cons.1 hy with rfl | hy
      · exact h2 x hx
      · exact s3 x hx y hy
  · rw [List.append_assoc] at hx
    have hcase : x = ⟨p, v⟩ ∨ x ∈ u ++ t := by
      rcases List.mem_append.1 hx with hx | hx
      · exact .inr (List.mem_append_left _ hx)
      · rcases List.mem_cons.1 hx with rfl | hx
        · exact .inl rfl
        · exact .inr (List.mem_append_right _ hx)
    rcases hcase with rfl | hx
    · exact ⟨hp, putM_self _ _ _⟩
    · obtain ⟨g1, g2, g3⟩ := k2 x hx
      exact ⟨g1, by rw [putM_ne (fun e => g2 (wayP_inj g1 hp e))]; exact g3⟩
  · by_cases e : π = wayP p
    · exact ⟨⟨p, v⟩, by simp, e.symm⟩
    · rw [putM_ne e] at hm
      obtain ⟨x, hx, hw⟩ := k3 π w e hm
      refine ⟨x, ?_, hw⟩
      rcases List.mem_append.1 hx with hx | hx
      · simp [hx]
      · simp [hx]
theorem rel_drop (hR : Rel m l) (hp : okP p) (h2 : ∀ y ∈ u, befP y.f0 p) (h3 : ∀ y ∈ t, befP p y.f0)
    (h4 : ((atL p l).2 = true ∧ ∃ x : S43, x.f0 = p ∧ l = u ++ x :: t) ∨ ((atL p l).2 = false ∧ l = u ++ t)) : Rel (putM m (wayP p) none) (u ++ t) := by
  obtain ⟨k1, k2, k3⟩ := rest_rel hR hp h2 h3 h4
  refine ⟨k1, fun x hx => ?_, fun π w hm => ?_⟩
  · obtain ⟨g1, g2, g3⟩ := k2 x hx
    exact ⟨g1, by rw [putM_ne (fun e => g2 (wayP_inj g1 hp e))]; exact g3⟩
  · by_cases e : π = wayP p
    · rw [e, putM_self] at hm; cases hm
    · rw [putM_ne e] at hm
      exact k3 π w e hm
end
end Go.Proofs.Ytnihacajjpcjeaa

end
section
namespace Go.Proofs.Ytnihacajjpcjeaa
open Go.RowKit Go.Proofs.Ytnihacajjpcjeaa.P Go.Proofs.YtnihacajjpcjeaaW.PrintWords Go.Proofs.YtnihacajjpcjeaaW.PrintLast Go.Proofs.YtnihacajjpcjeaaW.PrintMore
set_option linter.unusedVariables false
set_option linter.unusedSimpArgs false

/-- the number of a way's bits -/
def numW (π : Way) : Nat := π.foldl (fun h b => 2 * h + b.toNat) 0
/-- the address of a way -/
def adrW (π : Way) : Int := (numW π : Int) * 2 ^ (32 - π.length)
def prefW (π : Way) : S34 := ⟨adrW π, (π.length : Int)⟩
theorem numW_snoc (π : Way) (b : Bool) : numW (π ++ [b]) = 2 * numW π + b.toNat := by simp [numW, List.foldl_append]
theorem adrW_snoc (π : Way) (b : Bool) (h : π.length < 32) : adrW (π ++ [b]) = adrW π + (b.toNat : Int) * 2 ^ (31 - π.length) := by
  unfold adrW
  rw [numW_snoc, List.length_append, List.length_singleton, show 32 - (π.length + 1) = 31 - π.length by omega, two_pow_step π.length h]
  push_cast
  rw [Int.add_mul, Int.mul_comm 2 (numW π : Int), Int.mul_assoc]
theorem numW_lt (π : Way) : numW π < 2 ^ π.length := by
  have : ∀ (ρ : Way) (h : Nat), ρ.foldl (fun h b => 2 * h + b.toNat) h < (h + 1) * 2 ^ ρ.length := by
    intro ρ
    induction ρ with
    | nil => intro h; simp
    | cons b ρ ih =>
      intro h
      simp only [List.foldl_cons, List.length_cons]
      refine Nat.lt_of_lt_of_le (ih _) ?_
      rw [Nat.pow_succ, Nat.mul_comm (2 ^ ρ.length) 2, ← Nat.mul_assoc]
      exact Nat.mul_le_mul_right _ (by cases b <;> simp <;> omega)
  have h := this π 0
  rw [Nat.zero_add, Nat.one_mul] at h
  exact h
/-- the way of an address cut -/
theorem adrW_way (a : Int) (h0 : 0 ≤ a) (h1 : a < 4294967296) : ∀ n : Nat, n ≤ 32 → adrW (wayA a n) = adrA a n := by
  intro n
  induction n with
  | zero => intro _; rw [adrA_zero a h0 h1]; simp [adrW, wayA, numW]
  | succ n ih =>
    intro hn
    rw [wayA, adrW_snoc _ _ (by rw [wayA_len]; omega), ih (by omega), adrA_step a n (by omega), wayA_len]
theorem okP_pref {x : S34} (h : okP x) : prefW (wayP x) = x := by
  have hb := okP_bits h
  refine S34_ext ?_ ?_
  · show adrW (wayA x.f0 x.f1.toNat) = x.f0
    rw [adrW_way x.f0 h.1.1 (by have := h.1.2; omega) _ (by omega), okP_adr h]
  · show ((wayP x).length : Int) = x.f1
    unfold wayP
    rw [wayA_len]; omega
end Go.Proofs.Ytnihacajjpcjeaa

end
section
namespace Go.Proofs.Ytnihacajjpcjeaa
open Go.RowKit Go.Proofs.Ytnihacajjpcjeaa.P Go.Proofs.YtnihacajjpcjeaaW.PrintWords Go.Proofs.YtnihacajjpcjeaaW.PrintLast Go.Proofs.YtnihacajjpcjeaaW.PrintMore
set_option linter.unusedVariables false
set_option linter.unusedSimpArgs false

theorem info73 : (Try.prog.info? 73).map (fun i => (i.zero, i.size, i.bytes)) = some (some (.pointer none), 1, 8) := by kernel_rfl
theorem cells73 : Try.prog.cellsOf 73 = 1 := by kernel_rfl
theorem eq73 (w : World) (d : Nat) (x : Option Addr) : (Op.equalIn (d + 1) 73 (.pointer x) (.pointer none)).run Try.prog w = .ok x.isNone w := by
  cases x <;> simp [Op.equalIn]
theorem eq82 (w : World) (p q : Option Addr) : (Op.equalIn 10000 82 (.agg #[.pointer p, .pointer q]) (.agg #[.pointer none, .pointer none])).run Try.prog w = .ok (p.isNone && q.isNone) w := by
  obtain ⟨i, hi, _, _, _⟩ := info_parts info73
  rw [show (10000 : Nat) = 9999 + 1 from rfl, run_equalIn_array w 9999 _ _ Try.underlying82 hi, cells73]
  have e := eq73 w 9998
  cases p <;> cases q <;> (simp [Op.eqItems, List.range, List.range.loop]; try go_simp) <;> simp [e]
theorem ptrT_ptr (D : Way → Bool) (blk : Way → Nat) (π : Way) : ∃ u, ptrT D blk π = .pointer u := by
  unfold ptrT; split <;> exact ⟨_, rfl⟩
theorem TrieAt.drew {V : Type} {K : TK V} {w : World} {bt : Nat} {n : Int} {D : Way → Bool} {m : Way → Option V} {blk : Way → Nat} (h : TrieAt K w bt n D m blk) : TrieAt K w.drew bt n D m blk := ⟨⟨h.nodes.lies, h.nodes.inj, h.nodes.up, h.nodes.sup⟩, h.root, h.ne⟩
set_option maxHeartbeats 8000000 in
set_option maxRecDepth 100000 in
theorem prune_calls (bt : Nat) (own : Nat → Prop) (n : Int) (m : Way → Option Int) (blk : Way → Nat) (a : Int) (N : Nat) (h0 : 0 ≤ a) (h1 : a < 4294967296) (b1 : N ≤ 32) (hob : own bt) :
    ∀ (d i : Nat), i + d = N → ∀ (w : World) (D : Way → Bool), TrieAt kI w bt n D m blk → D (wayA a N) = true → (∀ π, D π = true → own (blk π)) → (∀ b, own b → b < w.heap.size) → (∀ π, D π = true → (∃ ρ, (m (π ++ ρ)).isSome = true) ∨ ∃ j, j ≤ N ∧ π = wayA a j) →
    Calls Try.prog 43 #[.pointer (some ⟨blk (wayA a i), 0, none⟩), .agg #[.int .u32 a, .int .i64 N], .int .i64 i] w fun e w' => ∃ D' : Way → Bool, e = .returned (ptrT D' blk (wayA a i)) ∧ TrieBut kI w' bt n D' m blk (wayA a i) (ptrT D blk (wayA a i)) ∧ (∀ π, D' π = true → D π = true) ∧ (∀ π, D' π = true → (∃ ρ, (m (π ++ ρ)).isSome = true) ∨ ∃ j, j < i ∧ π = wayA a j) ∧ (∀ j, j < i → D' (wayA a j) = true) ∧ Kb own w w' := by
  intro d
  induction d with
  | zero =>
    intro i hi w D hT hN hO hS hG
    have HD : Hid (∀ j, j ≤ N → D (wayA a j) = true) := fun j hj => by
      obtain ⟨ρ, hρ⟩ := wayA_split a hj
      rw [hρ] at hN; exact hT.nodes.ups ρ _ hN
    have c1 : decide ((i : Int) < (N : Int)) = false := decide_eq_false (by omega)
    go_enter Try.func43, Try.ntmps43
    go_upto_region 4 with fail
    all_goals
      have HB0 : Hid (Below w.heap.size w (w.alloc (.cells #[.int .u32 a, .int .i64 N] 34))) := Below.alloc (Below.refl _ w) (Nat.le_refl _) _
      obtain ⟨W2, hW2⟩ : ∃ W2, W2 = w.alloc (.cells #[.int .u32 a, .int .i64 N] 34) := ⟨_, rfl⟩
      have HT2 : Hid (TrieAt kI W2 bt n D m blk) := by rw [hW2]; exact hT.below HB0.out
      have K5 : Hid (Kb own w W2) := by rw [hW2]; exact Kb.of_below HB0.out
      obtain ⟨D1, hD1⟩ : ∃ D1, D1 = D := ⟨_, rfl⟩
      have K2 : Hid (∀ π, D1 π = true → D π = true) := by rw [hD1]; exact fun _ h => h
      have K3 : Hid (∀ π, D1 π = true → (∃ ρ, (m (π ++ ρ)).isSome = true) ∨ ∃ j, j < i + 1 ∧ π = wayA a j) := fun π hp => by
        rw [hD1] at hp
        rcases hG π hp with h | ⟨j, hj, e⟩
        · exact .inl h
        · exact .inr ⟨j, by omega, e⟩
      have K4 : Hid (∀ j, j < i + 1 → D1 (wayA a j) = true) := fun j hj => by rw [hD1]; exact HD.out j (by omega)
      have hDx := K4.out i (by omega)
      rw [← hD1] at HT2
      rw [← hW2]
      clear hD1 hT hN hO hS hG HB0 hW2
      have hx := HT2.out.nodes.is hDx
      have hk0 : W2.cell? ⟨blk (wayA a i), 0, none⟩ = some (ptrT D1 blk (wayA a i ++ [false])) := HT2.out.nodes.kid hDx false
      have hk1 : W2.cell? ⟨blk (wayA a i), 1, none⟩ = some (ptrT D1 blk (wayA a i ++ [true])) := HT2.out.nodes.kid hDx true
      have hpx : Hid (ptrT D1 blk (wayA a i) = .pointer (some ⟨blk (wayA a i), 0, none⟩)) := ptrT_some hDx
      have hpu : Hid (ptrT D1 blk (wayA a i) = ptrT D blk (wayA a i)) := (ptrT_some hDx).trans (ptrT_some (HD.out i (by omega))).symm
      have hstay : Hid (∀ (hw : (∃ ρ, (m (wayA a i ++ ρ)).isSome = true)), ∃ D' : Way → Bool, .returned (.pointer (some ⟨blk (wayA a i), 0, none⟩)) = Ending.returned (ptrT D' blk (wayA a i)) ∧ TrieBut kI W2 bt n D' m blk (wayA a i) (ptrT D blk (wayA a i)) ∧ (∀ π, D' π = true → D π = true) ∧ (∀ π, D' π = true → (∃ ρ, (m (π ++ ρ)).isSome = true) ∨ ∃ j, j < i ∧ π = wayA a j) ∧ (∀ j, j < i → D' (wayA a j) = true) ∧ Kb own w W2) := fun hw =>
        ⟨D1, by rw [hpx.out], by rw [← hpu.out]; exact HT2.out.but _, K2.out, fun π hp => by
          rcases K3.out π hp with h | ⟨j, hj, rfl⟩
          · exact .inl h
          · by_cases e : j = i
            · subst e; exact .inl hw
            · exact .inr ⟨j, by omega, rfl⟩, fun j hj => K4.out j (by omega), K5.out⟩
      have hkid : Hid (∀ c, D1 (wayA a i ++ [c]) = true → ∃ ρ, (m (wayA a i ++ ρ)).isSome = true) := fun c hc => by
        rcases K3.out _ hc with ⟨ρ, h⟩ | ⟨j, hj, e⟩
        · exact ⟨c :: ρ, by simpa using h⟩
        · have := congrArg List.length e
          simp [wayA_len] at this; omega
      have hgone : Hid (m (wayA a i) = none → (∀ c, D1 (wayA a i ++ [c]) = false) → ∃ D' : Way → Bool, .returned (.pointer none) = Ending.returned (ptrT D' blk (wayA a i)) ∧ TrieBut kI W2 bt n D' m blk (wayA a i) (ptrT D blk (wayA a i)) ∧ (∀ π, D' π = true → D π = true) ∧ (∀ π, D' π = true → (∃ ρ, (m (π ++ ρ)).isSome = true) ∨ ∃ j, j < i ∧ π = wayA a j) ∧ (∀ j, j < i → D' (wayA a j) = true) ∧ Kb own w W2) := fun hm hc => by
        have hcase : ∀ ρ, delD D1 (wayA a i) ρ = true → D1 ρ = true ∧ ρ ≠ wayA a i := fun ρ hp => by unfold delD at hp; simpa using hp
        refine ⟨delD D1 (wayA a i), by rw [ptrT_none (by simp [delD])], by rw [← hpu.out]; exact HT2.out.lop hm hc, fun π hp => K2.out π (hcase π hp).1, fun π hp => ?_, fun j hj => ?_, K5.out⟩
        · rcases K3.out π (hcase π hp).1 with h | ⟨j, hj, rfl⟩
          · exact .inl h
          · by_cases e : j = i
            · subst e; exact absurd rfl (hcase _ hp).2
            · exact .inr ⟨j, by omega, rfl⟩
        · have h1 := K4.out j (by omega)
          have h2 : wayA a j ≠ wayA a i := fun e => by have := congrArg List.length e; simp [wayA_len] at this; omega
          simp [delD, h1, h2]
      clear hpx hpu K2 K3 K4 K5 hDx HT2
      cases hm : m (wayA a i) with
      | some v =>
        rw [hm] at hx
        have hx' : W2.cell? ⟨blk (wayA a i), 2, none⟩ = some (.bool true) := hx
        have hfin := mkHid (hstay.out ⟨[], by rw [List.append_nil, hm]; rfl⟩)
        clear hx hk0 hk1 hstay hkid hgone
        go_wp2_with fail
        go_ret
        exact hfin.out
      | none =>
        rw [hm] at hx
        have hx' : W2.cell? ⟨blk (wayA a i), 2, none⟩ = some (.bool false) := hx
        clear hx
        cases e0 : D1 (wayA a i ++ [false]) with
        | true =>
          rw [ptrT_some e0] at hk0
          have hfin := mkHid (hstay.out (hkid.out _ e0))
          obtain ⟨u1, hu1⟩ := ptrT_ptr D1 blk (wayA a i ++ [true])
          rw [hu1] at hk1
          have heq : (Op.equalIn 10000 82 (.agg #[.pointer (some ⟨blk (wayA a i ++ [false]), 0, none⟩), .pointer u1]) (.agg #[.pointer none, .pointer none])).run Try.prog W2 = .ok false W2 := eq82 W2 _ _
          clear hstay hkid hgone hu1
          go_wp2_with fail
          go_ret
          exact hfin.out
        | false =>
          rw [ptrT_none e0] at hk0
          cases e1 : D1 (wayA a i ++ [true]) with
          | true =>
            rw [ptrT_some e1] at hk1
            have hfin := mkHid (hstay.out (hkid.out _ e1))
            have heq : (Op.equalIn 10000 82 (.agg #[.pointer none, .pointer (some ⟨blk (wayA a i ++ [true]), 0, none⟩)]) (.agg #[.pointer none, .pointer none])).run Try.prog W2 = .ok false W2 := eq82 W2 _ _
            clear hstay hkid hgone
            go_wp2_with fail
            go_ret
            exact hfin.out
          | false =>
            rw [ptrT_none e1] at hk1
            have hfin := mkHid (hgone.out hm (fun c => by cases c <;> assumption))
            have heq : (Op.equalIn 10000 82 (.agg #[.pointer none, .pointer none]) (.agg #[.pointer none, .pointer none])).run Try.prog W2 = .ok true W2 := eq82 W2 _ _
            clear hstay hkid hgone
            go_wp2_with fail
            go_ret
            exact hfin.out
  | succ d ih =>
    intro i hi w D hT hN hO hS hG
    have hD : ∀ j, j ≤ N → D (wayA a j) = true := fun j hj => by
      obtain ⟨ρ, hρ⟩ := wayA_split a hj
      rw [hρ] at hN; exact hT.nodes.ups ρ _ hN
    have HB0 : Hid (Below w.heap.size w (w.alloc (.cells #[.int .u32 a, .int .i64 N] 34))) := Below.alloc (Below.refl _ w) (Nat.le_refl _) _
    have HT0 := mkHid (hT.below HB0.out)
    have c1 : decide ((i : Int) < (N : Int)) = true := decide_eq_true (by omega)
    have hbit : Hid (trie_bit.f a (i : Int) = some ((bitB a i).toNat : Int)) := tbit_ev a i h0 h1 (by omega)
    have hw : IntKind.i64.wrap ((i : Int) + 1) = (i : Int) + 1 := by rw [IntWalk.i64_in _ (by omega)]
    have hlt := hT.nodes.lt (hD i (by omega))
    cases hB : bitB a i with
    | false =>
      rw [hB] at hbit
      have hwi : wayA a (i + 1) = wayA a i ++ [false] := by rw [wayA, hB]
      have hk : (w.alloc (.cells #[.int .u32 a, .int .i64 N] 34)).cell? ⟨blk (wayA a i), 0, none⟩ = some (.pointer (some ⟨blk (wayA a (i + 1)), 0, none⟩)) := by
        have := HT0.out.nodes.kid (hD i (by omega)) false
        rw [← hwi, ptrT_some (hD (i + 1) (by omega))] at this
        exact this
      go_enter Try.func43, Try.ntmps43
      go_wp2_with ((first | (go_at_call 45; (with_reducible refine (trie_bit.calls a i ((false.toNat : Nat) : Int) _ hbit.out).mono ?_); rintro e w' ⟨rfl, ⟨nd, rfl⟩⟩; (try first | exact ⟨rfl, _, World.drewN_drewN _ _ _⟩))))
      obtain ⟨W, hW⟩ : ∃ W, W = (w.alloc (.cells #[.int .u32 a, .int .i64 N] 34)).drewN nd := ⟨_, rfl⟩
      have HTW : Hid (TrieAt kI W bt n D m blk) := by rw [hW]; exact HT0.out.drewN _
      have HBW : Hid (Below w.heap.size w W) := by rw [hW]; exact pw_below_drewN HB0.out _
      have p0 : W.cell? ⟨w.heap.size, 0, none⟩ = some (.int .u32 a) := by rw [hW]; go_simp
      have p1 : W.cell? ⟨w.heap.size, 1, none⟩ = some (.int .i64 N) := by rw [hW]; go_simp
      have hkW : W.cell? ⟨blk (wayA a i), 0, none⟩ = some (.pointer (some ⟨blk (wayA a (i + 1)), 0, none⟩)) := by rw [hW]; exact hk
      rw [← hW]
      clear hW hk HT0 HB0
      have hcall : Hid (Calls Try.prog 43 #[.pointer (some ⟨blk (wayA a (i + 1)), 0, none⟩), .agg #[.int .u32 a, .int .i64 N], .int .i64 ((i : Int) + 1)] W.drew fun e w1 => ∃ u, e = .returned (.pointer u) ∧ w1.cell? ⟨blk (wayA a i), 0, none⟩ = some (.pointer (some ⟨blk (wayA a (i + 1)), 0, none⟩)) ∧ w1.frozen? ⟨blk (wayA a i), 0, none⟩ = false ∧ w1.cell? ⟨w.heap.size, 0, none⟩ = some (.int .u32 a) ∧ w1.cell? ⟨w.heap.size, 1, none⟩ = some (.int .i64 N) ∧
          Hid (∃ D1 : Way → Bool, TrieAt kI (w1.setCell ⟨blk (wayA a i), 0, none⟩ (.pointer u)) bt n D1 m blk ∧ (∀ π, D1 π = true → D π = true) ∧ (∀ π, D1 π = true → (∃ ρ, (m (π ++ ρ)).isSome = true) ∨ ∃ j, j < i + 1 ∧ π = wayA a j) ∧ (∀ j, j < i + 1 → D1 (wayA a j) = true) ∧ Kb own W w1)) := by
        have hs1 : w.heap.size < W.heap.size := World.block_lt_of_cell? _ _ p0
        refine (ih (i + 1) (by omega) W.drew D HTW.out.drew hN hO (fun b hb => Nat.lt_of_lt_of_le (hS b hb) HBW.out.size) hG).mono ?_
        rintro e w1 ⟨D1, rfl, g1, g2, g3, g4, g5⟩
        obtain ⟨u, hu⟩ := ptrT_ptr D1 blk (wayA a (i + 1))
        have hno : ¬ own w.heap.size := fun h => absurd (hS _ h) (by omega)
        have hb1 : w1.heap[w.heap.size]? = W.heap[w.heap.size]? := g5.block _ hs1 hno
        refine ⟨u, by rw [hu], ?_, froz_blk (g1.lies _ (g4 i (by omega))) 0, ?_, ?_, D1, ?_, g2, g3, g4, ⟨g5.os, g5.tape, g5.output, g5.size, g5.block⟩⟩
        · rw [cell_blk (g1.lies _ (g4 i (by omega)))]
          show some (ptrU D1 blk _ _ (wayA a i ++ [false])) = _
          rw [← hwi, ptrU_eq, ptrT_some (hD (i + 1) (by omega))]
        · unfold World.cell? at p0 ⊢; rw [hb1]; exact p0
        · unfold World.cell? at p1 ⊢; rw [hb1]; exact p1
        · rw [← hu]; exact g1.set (.inr ⟨wayA a i, false, hwi, g4 i (by omega), rfl⟩)
      have HO := mkHid hO
      have HD := mkHid hD
      have HG := mkHid hG
      have HS := mkHid hS
      have HWI := mkHid hwi
      have hn : Hid (∀ o, (⟨blk (wayA a i), 0, none⟩ : Addr) ≠ ⟨w.heap.size, o, none⟩) := fun o e => absurd (congrArg Addr.block e) (by show blk (wayA a i) ≠ w.heap.size; omega)
      clear ih hD hO hG hS hN hwi hT
      go_region_with (first | (go_at_call 43; refine hcall.out.mono ?_; rintro e w1 ⟨u, rfl, d0, e0, b0, b1, h2⟩))
      all_goals
        have HT2e := h2.out
        have K6 : Hid (Kb own w W) := Kb.of_below HBW.out
        obtain ⟨W2, hW2⟩ : ∃ W2, W2 = w1.setCell ⟨blk (wayA a i), 0, none⟩ (.pointer u) := ⟨_, rfl⟩
        obtain ⟨D1, t1, t2, t3, t4, t5⟩ := HT2e
        have HT2 : Hid (TrieAt kI W2 bt n D1 m blk) := by rw [hW2]; exact t1
        have K2 := mkHid t2
        have K3 := mkHid t3
        have K4 := mkHid t4
        have hDx := K4.out i (by omega)
        have K5 : Hid (Kb own w W2) := by rw [hW2]; exact (K6.out.trans t5).set _ (.inl (HO.out _ (HD.out i (by omega))))
        rw [← hW2]
        clear hW2 t1 t2 t3 t4 t5 h2 K6 d0 e0 b0 b1 hcall hn HG HS HWI HTW HBW p0 p1 hkW
        have hx := HT2.out.nodes.is hDx
        have hk0 : W2.cell? ⟨blk (wayA a i), 0, none⟩ = some (ptrT D1 blk (wayA a i ++ [false])) := HT2.out.nodes.kid hDx false
        have hk1 : W2.cell? ⟨blk (wayA a i), 1, none⟩ = some (ptrT D1 blk (wayA a i ++ [true])) := HT2.out.nodes.kid hDx true
        have hpx : Hid (ptrT D1 blk (wayA a i) = .pointer (some ⟨blk (wayA a i), 0, none⟩)) := ptrT_some hDx
        have hpu : Hid (ptrT D1 blk (wayA a i) = ptrT D blk (wayA a i)) := (ptrT_some hDx).trans (ptrT_some (HD.out i (by omega))).symm
        have hstay : Hid (∀ (hw : (∃ ρ, (m (wayA a i ++ ρ)).isSome = true)), ∃ D' : Way → Bool, .returned (.pointer (some ⟨blk (wayA a i), 0, none⟩)) = Ending.returned (ptrT D' blk (wayA a i)) ∧ TrieBut kI W2 bt n D' m blk (wayA a i) (ptrT D blk (wayA a i)) ∧ (∀ π, D' π = true → D π = true) ∧ (∀ π, D' π = true → (∃ ρ, (m (π ++ ρ)).isSome = true) ∨ ∃ j, j < i ∧ π = wayA a j) ∧ (∀ j, j < i → D' (wayA a j) = true) ∧ Kb own w W2) := fun hw =>
          ⟨D1, by rw [hpx.out], by rw [← hpu.out]; exact HT2.out.but _, K2.out, fun π hp => by
            rcases K3.out π hp with h | ⟨j, hj, rfl⟩
            · exact .inl h
            · by_cases e : j = i
              · subst e; exact .inl hw
              · exact .inr ⟨j, by omega, rfl⟩, fun j hj => K4.out j (by omega), K5.out⟩
        have hkid : Hid (∀ c, D1 (wayA a i ++ [c]) = true → ∃ ρ, (m (wayA a i ++ ρ)).isSome = true) := fun c hc => by
          rcases K3.out _ hc with ⟨ρ, h⟩ | ⟨j, hj, e⟩
          · exact ⟨c :: ρ, by simpa using h⟩
          · have := congrArg List.length e
            simp [wayA_len] at this; omega
        have hgone : Hid (m (wayA a i) = none → (∀ c, D1 (wayA a i ++ [c]) = false) → ∃ D' : Way → Bool, .returned (.pointer none) = Ending.returned (ptrT D' blk (wayA a i)) ∧ TrieBut kI W2 bt n D' m blk (wayA a i) (ptrT D blk (wayA a i)) ∧ (∀ π, D' π = true → D π = true) ∧ (∀ π, D' π = true → (∃ ρ, (m (π ++ ρ)).isSome = true) ∨ ∃ j, j < i ∧ π = wayA a j) ∧ (∀ j, j < i → D' (wayA a j) = true) ∧ Kb own w W2) := fun hm hc => by
          have hcase : ∀ ρ, delD D1 (wayA a i) ρ = true → D1 ρ = true ∧ ρ ≠ wayA a i := fun ρ hp => by unfold delD at hp; simpa using hp
          refine ⟨delD D1 (wayA a i), by rw [ptrT_none (by simp [delD])], by rw [← hpu.out]; exact HT2.out.lop hm hc, fun π hp => K2.out π (hcase π hp).1, fun π hp => ?_, fun j hj => ?_, K5.out⟩
          · rcases K3.out π (hcase π hp).1 with h | ⟨j, hj, rfl⟩
            · exact .inl h
            · by_cases e : j = i
              · subst e; exact absurd rfl (hcase _ hp).2
              · exact .inr ⟨j, by omega, rfl⟩
          · have h1 := K4.out j (by omega)
            have h2 : wayA a j ≠ wayA a i := fun e => by have := congrArg List.length e; simp [wayA_len] at this; omega
            simp [delD, h1, h2]
        clear hpx hpu K2 K3 K4 K5 hDx HT2
        cases hm : m (wayA a i) with
        | some v =>
          rw [hm] at hx
          have hx' : W2.cell? ⟨blk (wayA a i), 2, none⟩ = some (.bool true) := hx
          have hfin := mkHid (hstay.out ⟨[], by rw [List.append_nil, hm]; rfl⟩)
          clear hx hk0 hk1 hstay hkid hgone
          go_wp2_with fail
          go_ret
          exact hfin.out
        | none =>
          rw [hm] at hx
          have hx' : W2.cell? ⟨blk (wayA a i), 2, none⟩ = some (.bool false) := hx
          clear hx
          cases e0 : D1 (wayA a i ++ [false]) with
          | true =>
            rw [ptrT_some e0] at hk0
            have hfin := mkHid (hstay.out (hkid.out _ e0))
            obtain ⟨u1, hu1⟩ := ptrT_ptr D1 blk (wayA a i ++ [true])
            rw [hu1] at hk1
            have heq : (Op.equalIn 10000 82 (.agg #[.pointer (some ⟨blk (wayA a i ++ [false]), 0, none⟩), .pointer u1]) (.agg #[.pointer none, .pointer none])).run Try.prog W2 = .ok false W2 := eq82 W2 _ _
            clear hstay hkid hgone hu1
            go_wp2_with fail
            go_ret
            exact hfin.out
          | false =>
            rw [ptrT_none e0] at hk0
            cases e1 : D1 (wayA a i ++ [true]) with
            | true =>
              rw [ptrT_some e1] at hk1
              have hfin := mkHid (hstay.out (hkid.out _ e1))
              have heq : (Op.equalIn 10000 82 (.agg #[.pointer none, .pointer (some ⟨blk (wayA a i ++ [true]), 0, none⟩)]) (.agg #[.pointer none, .pointer none])).run Try.prog W2 = .ok false W2 := eq82 W2 _ _
              clear hstay hkid hgone
              go_wp2_with fail
              go_ret
              exact hfin.out
            | false =>
              rw [ptrT_none e1] at hk1
              have hfin := mkHid (hgone.out hm (fun c => by cases c <;> assumption))
              have heq : (Op.equalIn 10000 82 (.agg #[.pointer none, .pointer none]) (.agg #[.pointer none, .pointer none])).run Try.prog W2 = .ok true W2 := eq82 W2 _ _
              clear hstay hkid hgone
              go_wp2_with fail
              go_ret
              exact hfin.out
    | true =>
      rw [hB] at hbit
      have hwi : wayA a (i + 1) = wayA a i ++ [true] := by rw [wayA, hB]
      have hk : (w.alloc (.cells #[.int .u32 a, .int .i64 N] 34)).cell? ⟨blk (wayA a i), 1, none⟩ = some (.pointer (some ⟨blk (wayA a (i + 1)), 0, none⟩)) := by
        have := HT0.out.nodes.kid (hD i (by omega)) true
        rw [← hwi, ptrT_some (hD (i + 1) (by omega))] at this
        exact this
      go_enter Try.func43, Try.ntmps43
      go_wp2_with ((first | (go_at_call 45; (with_reducible refine (trie_bit.calls a i ((true.toNat : Nat) : Int) _ hbit.out).mono ?_); rintro e w' ⟨rfl, ⟨nd, rfl⟩⟩; (try first | exact ⟨rfl, _, World.drewN_drewN _ _ _⟩))))
      obtain ⟨W, hW⟩ : ∃ W, W = (w.alloc (.cells #[.int .u32 a, .int .i64 N] 34)).drewN nd := ⟨_, rfl⟩
      have HTW : Hid (TrieAt kI W bt n D m blk) := by rw [hW]; exact HT0.out.drewN _
      have HBW : Hid (Below w.heap.size w W) := by rw [hW]; exact pw_below_drewN HB0.out _
      have p0 : W.cell? ⟨w.heap.size, 0, none⟩ = some (.int .u32 a) := by rw [hW]; go_simp
      have p1 : W.cell? ⟨w.heap.size, 1, none⟩ = some (.int .i64 N) := by rw [hW]; go_simp
      have hkW : W.cell? ⟨blk (wayA a i), 1, none⟩ = some (.pointer (some ⟨blk (wayA a (i + 1)), 0, none⟩)) := by rw [hW]; exact hk
      rw [← hW]
      clear hW hk HT0 HB0
      have hcall : Hid (Calls Try.prog 43 #[.pointer (some ⟨blk (wayA a (i + 1)), 0, none⟩), .agg #[.int .u32 a, .int .i64 N], .int .i64 ((i : Int) + 1)] W.drew fun e w1 => ∃ u, e = .returned (.pointer u) ∧ w1.cell? ⟨blk (wayA a i), 1, none⟩ = some (.pointer (some ⟨blk (wayA a (i + 1)), 0, none⟩)) ∧ w1.frozen? ⟨blk (wayA a i), 1, none⟩ = false ∧ w1.cell? ⟨w.heap.size, 0, none⟩ = some (.int .u32 a) ∧ w1.cell? ⟨w.heap.size, 1, none⟩ = some (.int .i64 N) ∧
          Hid (∃ D1 : Way → Bool, TrieAt kI (w1.setCell ⟨blk (wayA a i), 1, none⟩ (.pointer u)) bt n D1 m blk ∧ (∀ π, D1 π = true → D π = true) ∧ (∀ π, D1 π = true → (∃ ρ, (m (π ++ ρ)).isSome = true) ∨ ∃ j, j < i + 1 ∧ π = wayA a j) ∧ (∀ j, j < i + 1 → D1 (wayA a j) = true) ∧ Kb own W w1)) := by
        have hs1 : w.heap.size < W.heap.size := World.block_lt_of_cell? _ _ p0
        refine (ih (i + 1) (by omega) W.drew D HTW.out.drew hN hO (fun b hb => Nat.lt_of_lt_of_le (hS b hb) HBW.out.size) hG).mono ?_
        rintro e w1 ⟨D1, rfl, g1, g2, g3, g4, g5⟩
        obtain ⟨u, hu⟩ := ptrT_ptr D1 blk (wayA a (i + 1))
        have hno : ¬ own w.heap.size := fun h => absurd (hS _ h) (by omega)
        have hb1 : w1.heap[w.heap.size]? = W.heap[w.heap.size]? := g5.block _ hs1 hno
        refine ⟨u, by rw [hu], ?_, froz_blk (g1.lies _ (g4 i (by omega))) 1, ?_, ?_, D1, ?_, g2, g3, g4, ⟨g5.os, g5.tape, g5.output, g5.size, g5.block⟩⟩
        · rw [cell_blk (g1.lies _ (g4 i (by omega)))]
          show some (ptrU D1 blk _ _ (wayA a i ++ [true])) = _
          rw [← hwi, ptrU_eq, ptrT_some (hD (i + 1) (by omega))]
        · unfold World.cell? at p0 ⊢; rw [hb1]; exact p0
        · unfold World.cell? at p1 ⊢; rw [hb1]; exact p1
        · rw [← hu]; exact g1.set (.inr ⟨wayA a i, true, hwi, g4 i (by omega), rfl⟩)
      have HO := mkHid hO
      have HD := mkHid hD
      have HG := mkHid hG
      have HS := mkHid hS
      have HWI := mkHid hwi
      have hn : Hid (∀ o, (⟨blk (wayA a i), 1, none⟩ : Addr) ≠ ⟨w.heap.size, o, none⟩) := fun o e => absurd (congrArg Addr.block e) (by show blk (wayA a i) ≠ w.heap.size; omega)
      clear ih hD hO hG hS hN hwi hT
      go_region_with (first | (go_at_call 43; refine hcall.out.mono ?_; rintro e w1 ⟨u, rfl, d0, e0, b0, b1, h2⟩))
      all_goals
        have HT2e := h2.out
        have K6 : Hid (Kb own w W) := Kb.of_below HBW.out
        obtain ⟨W2, hW2⟩ : ∃ W2, W2 = w1.setCell ⟨blk (wayA a i), 1, none⟩ (.pointer u) := ⟨_, rfl⟩
        obtain ⟨D1, t1, t2, t3, t4, t5⟩ := HT2e
        have HT2 : Hid (TrieAt kI W2 bt n D1 m blk) := by rw [hW2]; exact t1
        have K2 := mkHid t2
        have K3 := mkHid t3
        have K4 := mkHid t4
        have hDx := K4.out i (by omega)
        have K5 : Hid (Kb own w W2) := by rw [hW2]; exact (K6.out.trans t5).set _ (.inl (HO.out _ (HD.out i (by omega))))
        rw [← hW2]
        clear hW2 t1 t2 t3 t4 t5 h2 K6 d0 e0 b0 b1 hcall hn HG HS HWI HTW HBW p0 p1 hkW
        have hx := HT2.out.nodes.is hDx
        have hk0 : W2.cell? ⟨blk (wayA a i), 0, none⟩ = some (ptrT D1 blk (wayA a i ++ [false])) := HT2.out.nodes.kid hDx false
        have hk1 : W2.cell? ⟨blk (wayA a i), 1, none⟩ = some (ptrT D1 blk (wayA a i ++ [true])) := HT2.out.nodes.kid hDx true
        have hpx : Hid (ptrT D1 blk (wayA a i) = .pointer (some ⟨blk (wayA a i), 0, none⟩)) := ptrT_some hDx
        have hpu : Hid (ptrT D1 blk (wayA a i) = ptrT D blk (wayA a i)) := (ptrT_some hDx).trans (ptrT_some (HD.out i (by omega))).symm
        have hstay : Hid (∀ (hw : (∃ ρ, (m (wayA a i ++ ρ)).isSome = true)), ∃ D' : Way → Bool, .returned (.pointer (some ⟨blk (wayA a i), 0, none⟩)) = Ending.returned (ptrT D' blk (wayA a i)) ∧ TrieBut kI W2 bt n D' m blk (wayA a i) (ptrT D blk (wayA a i)) ∧ (∀ π, D' π = true → D π = true) ∧ (∀ π, D' π = true → (∃ ρ, (m (π ++ ρ)).isSome = true) ∨ ∃ j, j < i ∧ π = wayA a j) ∧ (∀ j, j < i → D' (wayA a j) = true) ∧ Kb own w W2) := fun hw =>
          ⟨D1, by rw [hpx.out], by rw [← hpu.out]; exact HT2.out.but _, K2.out, fun π hp => by
            rcases K3.out π hp with h | ⟨j, hj, rfl⟩
            · exact .inl h
            · by_cases e : j = i
              · subst e; exact .inl hw
              · exact .inr ⟨j, by omega, rfl⟩, fun j hj => K4.out j (by omega), K5.out⟩
        have hkid : Hid (∀ c, D1 (wayA a i ++ [c]) = true → ∃ ρ, (m (wayA a i ++ ρ)).isSome = true) := fun c hc => by
          rcases K3.out _ hc with ⟨ρ, h⟩ | ⟨j, hj, e⟩
          · exact ⟨c :: ρ, by simpa using h⟩
          · have := congrArg List.length e
            simp [wayA_len] at this; omega
        have hgone : Hid (m (wayA a i) = none → (∀ c, D1 (wayA a i ++ [c]) = false) → ∃ D' : Way → Bool, .returned (.pointer none) = Ending.returned (ptrT D' blk (wayA a i)) ∧ TrieBut kI W2 bt n D' m blk (wayA a i) (ptrT D blk (wayA a i)) ∧ (∀ π, D' π = true → D π = true) ∧ (∀ π, D' π = true → (∃ ρ, (m (π ++ ρ)).isSome = true) ∨ ∃ j, j < i ∧ π = wayA a j) ∧ (∀ j, j < i → D' (wayA a j) = true) ∧ Kb own w W2) := fun hm hc => by
          have hcase : ∀ ρ, delD D1 (wayA a i) ρ = true → D1 ρ = true ∧ ρ ≠ wayA a i := fun ρ hp => by unfold delD at hp; simpa using hp
          refine ⟨delD D1 (wayA a i), by rw [ptrT_none (by simp [delD])], by rw [← hpu.out]; exact HT2.out.lop hm hc, fun π hp => K2.out π (hcase π hp).1, fun π hp => ?_, fun j hj => ?_, K5.out⟩
          · rcases K3.out π (hcase π hp).1 with h | ⟨j, hj, rfl⟩
            · exact .inl h
            · by_cases e : j = i
              · subst e; exact absurd rfl (hcase _ hp).2
              · exact .inr ⟨j, by omega, rfl⟩
          · have h1 := K4.out j (by omega)
            have h2 : wayA a j ≠ wayA a i := fun e => by have := congrArg List.length e; simp [wayA_len] at this; omega
            simp [delD, h1, h2]
        clear hpx hpu K2 K3 K4 K5 hDx HT2
        cases hm : m (wayA a i) with
        | some v =>
          rw [hm] at hx
          have hx' : W2.cell? ⟨blk (wayA a i), 2, none⟩ = some (.bool true) := hx
          have hfin := mkHid (hstay.out ⟨[], by rw [List.append_nil, hm]; rfl⟩)
          clear hx hk0 hk1 hstay hkid hgone
          go_wp2_with fail
          go_ret
          exact hfin.out
        | none =>
          rw [hm] at hx
          have hx' : W2.cell? ⟨blk (wayA a i), 2, none⟩ = some (.bool false) := hx
          clear hx
          cases e0 : D1 (wayA a i ++ [false]) with
          | true =>
            rw [ptrT_some e0] at hk0
            have hfin := mkHid (hstay.out (hkid.out _ e0))
            obtain ⟨u1, hu1⟩ := ptrT_ptr D1 blk (wayA a i ++ [true])
            rw [hu1] at hk1
            have heq : (Op.equalIn 10000 82 (.agg #[.pointer (some ⟨blk (wayA a i ++ [false]), 0, none⟩), .pointer u1]) (.agg #[.pointer none, .pointer none])).run Try.prog W2 = .ok false W2 := eq82 W2 _ _
            clear hstay hkid hgone hu1
            go_wp2_with fail
            go_ret
            exact hfin.out
          | false =>
            rw [ptrT_none e0] at hk0
            cases e1 : D1 (wayA a i ++ [true]) with
            | true =>
              rw [ptrT_some e1] at hk1
              have hfin := mkHid (hstay.out (hkid.out _ e1))
              have heq : (Op.equalIn 10000 82 (.agg #[.pointer none, .pointer (some ⟨blk (wayA a i ++ [true]), 0, none⟩)]) (.agg #[.pointer none, .pointer none])).run Try.prog W2 = .ok false W2 := eq82 W2 _ _
              clear hstay hkid hgone
              go_wp2_with fail
              go_ret
              exact hfin.out
            | false =>
              rw [ptrT_none e1] at hk1
              have hfin := mkHid (hgone.out hm (fun c => by cases c <;> assumption))
              have heq : (Op.equalIn 10000 82 (.agg #[.pointer none, .pointer none]) (.agg #[.pointer none, .pointer none])).run Try.prog W2 = .ok true W2 := eq82 W2 _ _
              clear hstay hkid hgone
              go_wp2_with fail
              go_ret
              exact hfin.out
end Go.Proofs.Ytnihacajjpcjeaa

end
section
namespace Go.Proofs.Ytnihacajjpcjeaa
open Go.RowKit Go.Proofs.Ytnihacajjpcjeaa.P Go.Proofs.YtnihacajjpcjeaaW.PrintWords Go.Proofs.YtnihacajjpcjeaaW.PrintLast Go.Proofs.YtnihacajjpcjeaaW.PrintMore
set_option linter.unusedVariables false
set_option linter.unusedSimpArgs false

set_option maxHeartbeats 8000000 in
set_option maxRecDepth 100000 in
theorem drop_not (w : World) (bt : Nat) (a b : Int) (hM : addr_May.f a b = some false) :
    Calls Try.prog 18 #[.pointer (some ⟨bt, 0, none⟩), .agg #[.int .u32 a, .int .i64 b]] w fun e w' => e = .returned (.bool false) ∧ Below w.heap.size w w' := by
  have HM := mkHid hM
  have HB0 : Hid (Below w.heap.size w (w.alloc (.cells #[.int .u32 a, .int .i64 b] 34))) := Below.alloc (Below.refl _ w) (Nat.le_refl _) _
  clear hM
  go_enter Try.func18, Try.ntmps18
  go_wp2_with fail
  refine (find_not _ bt a b HM.out).mono ?_
  rintro e w1 ⟨rfl, hb⟩
  have HB := mkHid (below_step HB0.out hb)
  clear hb
  go_wp2_with fail
  go_ret
  exact ⟨rfl, HB.out⟩
set_option maxHeartbeats 8000000 in
set_option maxRecDepth 100000 in
theorem drop_none (w : World) (bt : Nat) (own : Nat → Prop) (n : Int) (m : Way → Option Int) (hT : Tri kI w bt own n m) (a : Int) (N : Nat) (h0 : 0 ≤ a) (h1 : a < 4294967296) (b1 : N ≤ 32) (hM : addr_May.f a N = some true) (hm : m (wayA a N) = none) :
    Calls Try.prog 18 #[.pointer (some ⟨bt, 0, none⟩), .agg #[.int .u32 a, .int .i64 N]] w fun e w' => e = .returned (.bool false) ∧ Below w.heap.size w w' := by
  have HM := mkHid hM
  have HB0 : Hid (Below w.heap.size w (w.alloc (.cells #[.int .u32 a, .int .i64 N] 34))) := Below.alloc (Below.refl _ w) (Nat.le_refl _) _
  obtain ⟨D, blk, g1, g2, g3, g4⟩ := hT
  have G1 := mkHid (g1.below HB0.out)
  clear hM g1 g2 g3 g4
  go_enter Try.func18, Try.ntmps18
  go_wp2_with fail
  refine (find_calls _ bt n D m blk G1.out a N h0 h1 b1 HM.out).mono ?_
  rintro e w1 ⟨rfl, hb⟩
  have HB := mkHid (below_step HB0.out hb)
  have HT := mkHid (G1.out.below hb)
  clear hb
  cases hD : D (wayA a N) with
  | false =>
    rw [ptrT_none hD]
    go_wp2_with fail
    go_ret
    exact ⟨rfl, HB.out⟩
  | true =>
    rw [ptrT_some hD]
    have c2 := HT.out.nodes.is hD
    rw [hm] at c2
    have c3 : w1.cell? ⟨blk (wayA a N), 2, none⟩ = some (.bool false) := c2
    clear c2
    go_wp2_with fail
    go_ret
    exact ⟨rfl, HB.out⟩
set_option maxHeartbeats 8000000 in
set_option maxRecDepth 100000 in
theorem drop_calls (w : World) (bt : Nat) (own : Nat → Prop) (n : Int) (m : Way → Option Int) (hT : Tri kI w bt own n m) (hS : ∀ b, own b → b < w.heap.size) (a : Int) (N : Nat) (h0 : 0 ≤ a) (h1 : a < 4294967296) (b1 : N ≤ 32) (n0 : 0 < n) (n1 : n < 1000000) (hM : addr_May.f a N = some true) (v : Int) (hm : m (wayA a N) = some v) :
    Calls Try.prog 18 #[.pointer (some ⟨bt, 0, none⟩), .agg #[.int .u32 a, .int .i64 N]] w fun e w' => e = .returned (.bool true) ∧ Tri kI w' bt own (n - 1) (putM m (wayA a N) none) ∧ Kb own w w' := by
  have HM := mkHid hM
  have HB0 : Hid (Below w.heap.size w (w.alloc (.cells #[.int .u32 a, .int .i64 N] 34))) := Below.alloc (Below.refl _ w) (Nat.le_refl _) _
  have hx0 : (w.alloc (.cells #[.int .u32 a, .int .i64 N] 34)).cell? ⟨w.heap.size, 0, none⟩ = some (.int .u32 a) := by go_simp
  have hx1 : (w.alloc (.cells #[.int .u32 a, .int .i64 N] 34)).cell? ⟨w.heap.size, 1, none⟩ = some (.int .i64 N) := by go_simp
  obtain ⟨D, blk, g1, g2, g3, g4⟩ := hT
  have G1 := mkHid (g1.below HB0.out)
  have G2 := mkHid g2
  have G3 : Hid (own bt ∧ bt < w.heap.size) := ⟨g3, blk_lt g1.root⟩
  have G4 := mkHid g4
  have HS := mkHid hS
  clear hM g1 g2 g3 g4 hS
  go_enter Try.func18, Try.ntmps18
  go_wp2_with fail
  refine (find_calls _ bt n D m blk G1.out a N h0 h1 b1 HM.out).mono ?_
  rintro e w1 ⟨rfl, hb⟩
  have HB := mkHid (below_step HB0.out hb)
  have hs : w.heap.size < w1.heap.size := by have := hb.size; simp at this; omega
  have q0 : w1.cell? ⟨w.heap.size, 0, none⟩ = some (.int .u32 a) := (hb.cell (by simp)).trans hx0
  have q1 : w1.cell? ⟨w.heap.size, 1, none⟩ = some (.int .i64 N) := (hb.cell (by simp)).trans hx1
  have HT := mkHid (G1.out.below hb)
  have hD : D (wayA a N) = true := HT.out.nodes.sup _ (by rw [hm]; rfl)
  rw [ptrT_some hD]
  have c2 := HT.out.nodes.is hD
  have c4 : w1.cell? ⟨blk (wayA a N), 3, none⟩ = some (.int .i64 ((m (wayA a N)).getD 0)) := HT.out.nodes.val hD
  rw [hm] at c2 c4
  have c3 : w1.cell? ⟨blk (wayA a N), 2, none⟩ = some (.bool true) := c2
  have f2 : w1.frozen? ⟨blk (wayA a N), 2, none⟩ = false := froz_blk (HT.out.nodes.lies _ hD) _
  have f3 : w1.frozen? ⟨blk (wayA a N), 3, none⟩ = false := froz_blk (HT.out.nodes.lies _ hD) _
  have HT3 : Hid (TrieAt kI ((w1.setCell ⟨blk (wayA a N), 2, none⟩ (.bool false)).setCell ⟨blk (wayA a N), 3, none⟩ (.int .i64 0)) bt n D (putM m (wayA a N) none) blk) := HT.out.write hD none
  have d1 := HT3.out.cell1
  have e1 : ((w1.setCell ⟨blk (wayA a N), 2, none⟩ (.bool false)).setCell ⟨blk (wayA a N), 3, none⟩ (.int .i64 0)).frozen? ⟨bt, 1, none⟩ = false := froz_blk HT3.out.root 1
  have HT4 := mkHid (HT3.out.count (n - 1))
  have hw : IntKind.i64.wrap (n - 1) = n - 1 := IntWalk.i64_in _ (by omega)
  clear hb hx0 hx1 c2 G1 HT
  go_upto_region 7 with fail
  obtain ⟨W, hW⟩ : ∃ W, W = ((w1.setCell ⟨blk (wayA a N), 2, none⟩ (.bool false)).setCell ⟨blk (wayA a N), 3, none⟩ (.int .i64 0)).setCell ⟨bt, 1, none⟩ (.int .i64 (n - 1)) := ⟨_, rfl⟩
  have hog : own (blk (wayA a N)) := G4.out _ hD
  have hxn : blk (wayA a N) ≠ w.heap.size := fun e => absurd (HS.out _ hog) (by omega)
  have hbn : bt ≠ w.heap.size := by have := G3.out.2; omega
  have p0 : W.cell? ⟨w.heap.size, 0, none⟩ = some (.int .u32 a) := by
    rw [hW, World.cell?_setCell_other _ _ _ _ (fun e => hbn (congrArg Addr.block e)), World.cell?_setCell_other _ _ _ _ (fun e => hxn (congrArg Addr.block e)), World.cell?_setCell_other _ _ _ _ (fun e => hxn (congrArg Addr.block e))]; exact q0
  have p1 : W.cell? ⟨w.heap.size, 1, none⟩ = some (.int .i64 N) := by
    rw [hW, World.cell?_setCell_other _ _ _ _ (fun e => hbn (congrArg Addr.block e)), World.cell?_setCell_other _ _ _ _ (fun e => hxn (congrArg Addr.block e)), World.cell?_setCell_other _ _ _ _ (fun e => hxn (congrArg Addr.block e))]; exact q1
  have HTW : Hid (TrieAt kI W bt (n - 1) D (putM m (wayA a N) none) blk) := by rw [hW]; exact HT4.out
  have HKW : Hid (Kb own w W) := by
    rw [hW]
    exact (((Kb.of_below HB.out).set _ (.inl hog)).set _ (.inl hog)).set _ (.inl G3.out.1)
  rw [← hW]
  clear hW HT4 HT3 d1 e1 f2 f3 c3 c4 q0 q1 hog hxn hs HB
  have hroot : D [] = true := HTW.out.nodes.ups _ [] hD
  have hkW : W.cell? ⟨bt, 0, none⟩ = some (.pointer (some ⟨blk [], 0, none⟩)) := by rw [HTW.out.cell0, ptrT_some hroot]
  have hcall : Hid (Calls Try.prog 43 #[.pointer (some ⟨blk [], 0, none⟩), .agg #[.int .u32 a, .int .i64 N], .int .i64 0] W.drew fun e w1 => ∃ u, e = .returned (.pointer u) ∧ w1.cell? ⟨bt, 0, none⟩ = some (.pointer (some ⟨blk [], 0, none⟩)) ∧ w1.frozen? ⟨bt, 0, none⟩ = false ∧ w1.cell? ⟨w.heap.size, 0, none⟩ = some (.int .u32 a) ∧ w1.cell? ⟨w.heap.size, 1, none⟩ = some (.int .i64 N) ∧
      Hid (Tri kI (w1.setCell ⟨bt, 0, none⟩ (.pointer u)) bt own (n - 1) (putM m (wayA a N) none) ∧ Kb own w (w1.setCell ⟨bt, 0, none⟩ (.pointer u)))) := by
    have hs1 : w.heap.size < W.heap.size := World.block_lt_of_cell? _ _ p0
    refine (prune_calls bt own (n - 1) (putM m (wayA a N) none) blk a N h0 h1 b1 G3.out.1 N 0 (by omega) W.drew D HTW.out.drew hD G4.out (fun b hb => Nat.lt_of_lt_of_le (HS.out b hb) HKW.out.size) (fun π hp => ?_)).mono ?_
    · obtain ⟨ρ, hr⟩ := G2.out π hp
      by_cases e : π ++ ρ = wayA a N
      · refine .inr ⟨π.length, ?_, ?_⟩
        · have := congrArg List.length e; rw [List.length_append, wayA_len] at this; omega
        · rw [← wayA_take a N π.length (by have := congrArg List.length e; rw [List.length_append, wayA_len] at this; omega), ← e, List.take_left]
      · exact .inl ⟨ρ, by rw [putM_ne e]; exact hr⟩
    · rintro e w2 ⟨D1, rfl, g1, g2, g3, g4, g5⟩
      obtain ⟨u, hu⟩ := ptrT_ptr D1 blk []
      have hno : ¬ own w.heap.size := fun h => absurd (HS.out _ h) (by omega)
      have hb1 : w2.heap[w.heap.size]? = W.heap[w.heap.size]? := g5.block _ hs1 hno
      refine ⟨u, by rw [show wayA a 0 = [] from rfl, hu], ?_, froz_blk g1.root 0, ?_, ?_, ⟨D1, blk, ?_, fun π hp => ?_, G3.out.1, fun π hp => G4.out π (g2 π hp)⟩, ?_⟩
      · rw [cell_blk g1.root]
        show some (ptrU D1 blk [] (ptrT D blk []) []) = _
        rw [ptrU_eq, ptrT_some hroot]
      · unfold World.cell? at p0 ⊢; rw [hb1]; exact p0
      · unfold World.cell? at p1 ⊢; rw [hb1]; exact p1
      · rw [← hu]; exact g1.set (.inl ⟨rfl, rfl⟩)
      · rcases g3 π hp with h | ⟨j, hj, _⟩
        · exact h
        · omega
      · exact (HKW.out.trans ⟨g5.os, g5.tape, g5.output, g5.size, g5.block⟩).set _ (.inl G3.out.1)
  have hn : Hid (∀ o, (⟨bt, 0, none⟩ : Addr) ≠ ⟨w.heap.size, o, none⟩) := fun o e => hbn (congrArg Addr.block e)
  clear hbn hD hroot hm
  go_region_with (first | (go_at_call 43; refine hcall.out.mono ?_; rintro e w2 ⟨u, rfl, d0, e0, b0, b1, h2⟩))
  all_goals
    have HF := mkHid h2.out
    clear h2 d0 e0 b0 b1 hcall
    go_wp2_with fail
    go_ret
    exact ⟨rfl, HF.out.1, HF.out.2⟩
end Go.Proofs.Ytnihacajjpcjeaa

end
section
namespace Go.Proofs.Ytnihacajjpcjeaa
open Go.RowKit Go.Proofs.Ytnihacajjpcjeaa.P Go.Proofs.YtnihacajjpcjeaaW.PrintWords Go.Proofs.YtnihacajjpcjeaaW.PrintLast Go.Proofs.YtnihacajjpcjeaaW.PrintMore
set_option linter.unusedVariables false
set_option linter.unusedSimpArgs false

/-- the longest of the first i lengths: its length, its value -/
def bstT {V : Type} (m : Way → Option V) (a : Int) : Nat → Option (Nat × V)
  | 0 => none
  | i + 1 => match m (wayA a i) with
    | some v => some (i, v)
    | none => bstT m a i
theorem bst_stay {V : Type} {m : Way → Option V} {a : Int} {i : Nat} : ∀ d, (∀ j, i ≤ j → j < i + d → m (wayA a j) = none) → bstT m a (i + d) = bstT m a i := by
  intro d
  induction d with
  | zero => intro _; rfl
  | succ d ih =>
    intro h
    show (match m (wayA a (i + d)) with | some v => some (i + d, v) | none => bstT m a (i + d)) = _
    rw [h (i + d) (by omega) (by omega)]
    exact ih (fun j h1 h2 => h j h1 (by omega))
theorem bst_some {V : Type} {m : Way → Option V} {a : Int} {i : Nat} {v : V} (h : m (wayA a i) = some v) : bstT m a (i + 1) = some (i, v) := by simp [bstT, h]
theorem bst_none {V : Type} {m : Way → Option V} {a : Int} {i : Nat} (h : m (wayA a i) = none) : bstT m a (i + 1) = bstT m a i := by simp [bstT, h]
def bA {V : Type} (a : Int) (o : Option (Nat × V)) : Int := match o with | some x => adrA a x.1 | none => 0
def bB {V : Type} (o : Option (Nat × V)) : Int := match o with | some x => (x.1 : Int) | none => 0
def bV (o : Option (Nat × Int)) : Int := match o with | some x => x.2 | none => 0

set_option maxHeartbeats 8000000 in
set_option maxRecDepth 100000 in
theorem lng_calls (w : World) (bt : Nat) (own : Nat → Prop) (n : Int) (m : Way → Option Int) (hT : Tri kI w bt own n m) (a : Int) (h0 : 0 ≤ a) (h1 : a < 4294967296) :
    Calls Try.prog 21 #[.pointer (some ⟨bt, 0, none⟩), .int .u32 a] w fun e w' => e = .returned (.tuple #[.agg #[.int .u32 (bA a (bstT m a 33)), .int .i64 (bB (bstT m a 33))], .int .i64 (bV (bstT m a 33)), .bool (bstT m a 33).isSome]) ∧ Below w.heap.size w w' := by
  obtain ⟨D, blk, g1, g2, g3, g4⟩ := hT
  have G1 := mkHid g1
  have hc0 := g1.cell0
  have hbt := blk_lt g1.root
  clear g1 g2 g3 g4
  go_enter Try.func21, Try.ntmps21
  go_upto_region 7 with fail
  obtain ⟨S0, hS0⟩ : ∃ S0, S0 = w.heap.size := ⟨_, rfl⟩
  obtain ⟨W, hW⟩ : ∃ W, W = ((w.alloc (.cells #[.int .u32 0, .int .i64 0] 34)).alloc (.cells #[.int .u32 0, .int .i64 0] 34)).alloc (.cells #[.int .u32 0, .int .i64 0] 34) := ⟨_, rfl⟩
  have hB : Hid (Below w.heap.size w W) := by rw [hW]; exact (((Below.refl w.heap.size w).alloc (Nat.le_refl _) _).alloc (by simp) _).alloc (by simp; omega) _
  have r4 : W.heap[S0]? = some (.cells #[.int .u32 0, .int .i64 0] 34 (0, 0)) := by
    rw [hW, hS0]; exact blk_alloc (blk_alloc (heap_alloc_new w _) _) _
  have r7 : W.heap[S0 + 1]? = some (.cells #[.int .u32 0, .int .i64 0] 34 (0, 0)) := by
    rw [hW, hS0]
    have := heap_alloc_new (w.alloc (.cells #[.int .u32 0, .int .i64 0] 34)) (.cells #[.int .u32 0, .int .i64 0] 34)
    rw [World.size_alloc] at this
    exact blk_alloc this _
  have r10 : W.heap[S0 + 1 + 1]? = some (.cells #[.int .u32 0, .int .i64 0] 34 (0, 0)) := by
    rw [hW, hS0]
    have := heap_alloc_new ((w.alloc (.cells #[.int .u32 0, .int .i64 0] 34)).alloc (.cells #[.int .u32 0, .int .i64 0] 34)) (.cells #[.int .u32 0, .int .i64 0] 34)
    rw [World.size_alloc, World.size_alloc] at this
    exact this
  have HTW := mkHid (G1.out.below hB.out)
  have hcW := HTW.out.cell0
  rw [← hW, ← hS0]
  rw [← hS0] at hbt hB
  obtain ⟨S1, hS1⟩ : ∃ S1, S1 = S0 + 1 := ⟨_, rfl⟩
  obtain ⟨S2, hS2⟩ : ∃ S2, S2 = S1 + 1 := ⟨_, rfl⟩
  rw [← hS1] at r7 r10
  rw [← hS2] at r10
  rw [← hS1, ← hS2]
  have hsl : Hid (S1 = S0 + 1 ∧ S2 = S0 + 2 ∧ S0 = w.heap.size) := ⟨hS1, by omega, hS0⟩
  have R4 := mkHid r4
  have R7 := mkHid r7
  have R10 := mkHid r10
  clear hW hc0 r4 r7 r10 HTW hS1 hS2 hS0
  go_wp2_with fail
  go_loopg [8, 9, 11] 32 (fun kq v8 v9 v11 wr => ∃ i : Nat, v11 = ptrT D blk (wayA a i) ∧ i ≤ 32 ∧ v8 = .int .i64 (bV (bstT m a i)) ∧ v9 = .bool (bstT m a i).isSome ∧ i + kq = 32 ∧ Hid (wr.heap[S0]? = some (.cells #[.int .u32 0, .int .i64 0] 34 (0, 0))) ∧ Hid (wr.heap[S1]? = some (.cells #[.int .u32 (bA a (bstT m a i)), .int .i64 (bB (bstT m a i))] 34 (0, 0))) ∧ Hid (wr.heap[S2]? = some (.cells #[.int .u32 (adrA a i), .int .i64 i] 34 (0, 0))) ∧ Hid (Below S0 w wr))
  case atStart => exact ⟨0, rfl, by omega, rfl, rfl, by omega, R4.out, R7.out, (by rw [adrA_zero a h0 h1]; exact R10.out), hB⟩
  case round =>
    clear R4 R7 R10 hB hcW
    obtain ⟨i, rfl, hi, rfl, rfl, hk, R4, R7, R10, HB⟩ := hrel
    have HBw : Hid (Below w.heap.size w wr) := by rw [← hsl.out.2.2]; exact HB.out
    have HT := mkHid (G1.out.below HBw.out)
    cases hD : D (wayA a i) with
    | false =>
      rw [ptrT_none hD]
      have hbf : Hid (bstT m a 33 = bstT m a i) := by
        have := bst_stay (m := m) (a := a) (i := i) (33 - i) (fun j h1 h2 => by
          obtain ⟨ρ, hρ⟩ := wayA_split a h1
          cases hv : m (wayA a j) with
          | none => rfl
          | some v =>
            have h3 := HT.out.nodes.sup (wayA a j) (by rw [hv]; rfl)
            rw [hρ] at h3
            rw [HT.out.nodes.ups ρ _ h3] at hD; cases hD)
        rw [show i + (33 - i) = 33 by omega] at this
        exact this
      have p0 : wr.cell? ⟨S1, 0, none⟩ = some (.int .u32 (bA a (bstT m a i))) := blk_cell R7.out 0
      have p1 : wr.cell? ⟨S1, 1, none⟩ = some (.int .i64 (bB (bstT m a i))) := blk_cell R7.out 1
      have t0 : wr.cell? ⟨S0, 0, none⟩ = some (.int .u32 0) := blk_cell R4.out 0
      have t1 : wr.cell? ⟨S0, 1, none⟩ = some (.int .i64 0) := blk_cell R4.out 1
      have tf0 : wr.frozen? ⟨S0, 0, none⟩ = false := blk_frozen R4.out _
      have tf1 : wr.frozen? ⟨S0, 1, none⟩ = false := blk_frozen R4.out _
      have z := blk_set (blk_set R4.out 0 (.int .u32 (bA a (bstT m a i)))) 1 (.int .i64 (bB (bstT m a i)))
      have z0 : ((wr.setCell ⟨S0, 0, none⟩ (.int .u32 (bA a (bstT m a i)))).setCell ⟨S0, 1, none⟩ (.int .i64 (bB (bstT m a i)))).cell? ⟨S0, 0, none⟩ = some (.int .u32 (bA a (bstT m a i))) := blk_cell z 0
      have z1 : ((wr.setCell ⟨S0, 0, none⟩ (.int .u32 (bA a (bstT m a i)))).setCell ⟨S0, 1, none⟩ (.int .i64 (bB (bstT m a i)))).cell? ⟨S0, 1, none⟩ = some (.int .i64 (bB (bstT m a i))) := blk_cell z 1
      have hend : Hid (Below w.heap.size w ((wr.setCell ⟨S0, 0, none⟩ (.int .u32 (bA a (bstT m a i)))).setCell ⟨S0, 1, none⟩ (.int .i64 (bB (bstT m a i))))) := by
        rw [← hsl.out.2.2]; exact (HB.out.setCell (Nat.le_refl _) _).setCell (Nat.le_refl _) _
      clear z
      go_wp2_with fail
      refine bodyPost_ret (v := .tuple #[.agg #[.int .u32 (bA a (bstT m a i)), .int .i64 (bB (bstT m a i))], .int .i64 (bV (bstT m a i)), .bool (bstT m a i).isSome]) ?_ rfl ⟨by rw [hbf.out], hend.out⟩
      simp [results, Try.results21, go_sem, z0, z1]
    | true =>
      rw [ptrT_some hD]
      have c2 := HT.out.nodes.is hD
      have c3 : wr.cell? ⟨blk (wayA a i), 3, none⟩ = some (.int .i64 ((m (wayA a i)).getD 0)) := HT.out.nodes.val hD
      have q0 := blk_cell R10.out 0
      have q1 := blk_cell R10.out 1
      have q0' : wr.cell? ⟨S2, 0, none⟩ = some (.int .u32 (adrA a i)) := q0
      have q1' : wr.cell? ⟨S2, 1, none⟩ = some (.int .i64 i) := q1
      clear q0 q1
      cases hm : m (wayA a i)
      case' some v =>
        rw [hm] at c2 c3
        have c2' : wr.cell? ⟨blk (wayA a i), 2, none⟩ = some (.bool true) := c2
        have c3' : wr.cell? ⟨blk (wayA a i), 3, none⟩ = some (.int .i64 v) := c3
        have p0 : wr.cell? ⟨S1, 0, none⟩ = some (.int .u32 (bA a (bstT m a i))) := blk_cell R7.out 0
        have p1 : wr.cell? ⟨S1, 1, none⟩ = some (.int .i64 (bB (bstT m a i))) := blk_cell R7.out 1
        have pf0 : wr.frozen? ⟨S1, 0, none⟩ = false := blk_frozen R7.out _
        have pf1 : wr.frozen? ⟨S1, 1, none⟩ = false := blk_frozen R7.out _
        clear c2 c3
        have hfar : ∀ g o, g ≠ S1 → ∀ x y, ((wr.setCell ⟨S1, 0, none⟩ x).setCell ⟨S1, 1, none⟩ y).cell? ⟨g, o, none⟩ = wr.cell? ⟨g, o, none⟩ := fun g o hg x y => by
          rw [World.cell?_setCell_other _ _ _ _ (fun e => hg (congrArg Addr.block e).symm), World.cell?_setCell_other _ _ _ _ (fun e => hg (congrArg Addr.block e).symm)]
        have hblt : blk (wayA a i) < S0 := by have := G1.out.nodes.lt hD; have := hsl.out; omega
        have hX : Hid (((wr.setCell ⟨S1, 0, none⟩ (.int .u32 (adrA a i))).setCell ⟨S1, 1, none⟩ (.int .i64 i)).cell? ⟨S2, 0, none⟩ = some (.int .u32 (adrA a i)) ∧ ((wr.setCell ⟨S1, 0, none⟩ (.int .u32 (adrA a i))).setCell ⟨S1, 1, none⟩ (.int .i64 i)).cell? ⟨S2, 1, none⟩ = some (.int .i64 i) ∧ ((wr.setCell ⟨S1, 0, none⟩ (.int .u32 (adrA a i))).setCell ⟨S1, 1, none⟩ (.int .i64 i)).cell? ⟨blk (wayA a i), 3, none⟩ = some (.int .i64 v)) :=
          ⟨(hfar _ _ (by have := hsl.out; omega) _ _).trans q0', (hfar _ _ (by have := hsl.out; omega) _ _).trans q1', (hfar _ _ (by have := hsl.out; omega) _ _).trans c3'⟩
        clear hfar
        go_upto_region 11 with fail
        go_region_held3 (fun w' => w'.cell? ⟨S2, 0, none⟩ = some (.int .u32 (adrA a i)) ∧ w'.cell? ⟨S2, 1, none⟩ = some (.int .i64 i) ∧ w'.cell? ⟨blk (wayA a i), 3, none⟩ = some (.int .i64 v)) (first | (go_keep; done) | exact hX.out) (first | fail)
        obtain ⟨W2, hW2⟩ : ∃ W2, W2 = ((wr.setCell ⟨S1, 0, none⟩ (.int .u32 (adrA a i))).setCell ⟨S1, 1, none⟩ (.int .i64 i)).drew := ⟨_, rfl⟩
        have hbst : Hid (bstT m a (i + 1) = some (i, v)) := bst_some hm
        have R4' : Hid (W2.heap[S0]? = some (.cells #[.int .u32 0, .int .i64 0] 34 (0, 0))) := by
          rw [hW2]; exact blk_drew (blk_far (blk_far R4.out (show S0 ≠ S1 by have := hsl.out; omega) _) (show S0 ≠ S1 by have := hsl.out; omega) _)
        have R7' : Hid (W2.heap[S1]? = some (.cells #[.int .u32 (bA a (bstT m a (i + 1))), .int .i64 (bB (bstT m a (i + 1)))] 34 (0, 0))) := by
          rw [hW2, hbst.out]; exact blk_drew (blk_set (blk_set R7.out 0 _) 1 _)
        have R10' : Hid (W2.heap[S2]? = some (.cells #[.int .u32 (adrA a i), .int .i64 i] 34 (0, 0))) := by
          rw [hW2]; exact blk_drew (blk_far (blk_far R10.out (show S2 ≠ S1 by have := hsl.out; omega) _) (show S2 ≠ S1 by have := hsl.out; omega) _)
        have HB' : Hid (Below S0 w W2) := by
          rw [hW2]; exact ((HB.out.setCell (show S0 ≤ S1 by have := hsl.out; omega) _).setCell (show S0 ≤ S1 by have := hsl.out; omega) _).drew
        rw [← hW2]
        clear hW2 hX hblt p0 p1 pf0 pf1 c3' c2' q0' q1' R4 R7 R10 HB HBw HT
      case' none =>
        rw [hm] at c2
        have c2' : wr.cell? ⟨blk (wayA a i), 2, none⟩ = some (.bool false) := c2
        clear c2 c3
        go_upto_region 12 with fail
        obtain ⟨W2, hW2⟩ : ∃ W2, W2 = wr := ⟨_, rfl⟩
        have hbst : Hid (bstT m a (i + 1) = bstT m a i) := bst_none hm
        have R4' : Hid (W2.heap[S0]? = some (.cells #[.int .u32 0, .int .i64 0] 34 (0, 0))) := by rw [hW2]; exact R4.out
        have R7' : Hid (W2.heap[S1]? = some (.cells #[.int .u32 (bA a (bstT m a (i + 1))), .int .i64 (bB (bstT m a (i + 1)))] 34 (0, 0))) := by rw [hW2, hbst.out]; exact R7.out
        have R10' : Hid (W2.heap[S2]? = some (.cells #[.int .u32 (adrA a i), .int .i64 i] 34 (0, 0))) := by rw [hW2]; exact R10.out
        have HB' : Hid (Below S0 w W2) := by rw [hW2]; exact HB.out
        rw [← hW2]
        clear hW2 c2' q0' q1' R4 R7 R10 HB HBw HT
      all_goals
        have HT := mkHid (G1.out.below (show Below w.heap.size w W2 by rw [← hsl.out.2.2]; exact HB'.out))
        have q0 : W2.cell? ⟨S2, 0, none⟩ = some (.int .u32 (adrA a i)) := blk_cell R10'.out 0
        have q1 : W2.cell? ⟨S2, 1, none⟩ = some (.int .i64 i) := blk_cell R10'.out 1
        clear hm
        by_cases h32 : i = 32
        · subst h32
          have p0 : W2.cell? ⟨S1, 0, none⟩ = some (.int .u32 (bA a (bstT m a 33))) := blk_cell R7'.out 0
          have p1 : W2.cell? ⟨S1, 1, none⟩ = some (.int .i64 (bB (bstT m a 33))) := blk_cell R7'.out 1
          have t0 : W2.cell? ⟨S0, 0, none⟩ = some (.int .u32 0) := blk_cell R4'.out 0
          have t1 : W2.cell? ⟨S0, 1, none⟩ = some (.int .i64 0) := blk_cell R4'.out 1
          have tf0 : W2.frozen? ⟨S0, 0, none⟩ = false := blk_frozen R4'.out _
          have tf1 : W2.frozen? ⟨S0, 1, none⟩ = false := blk_frozen R4'.out _
          have z := blk_set (blk_set R4'.out 0 (.int .u32 (bA a (bstT m a 33)))) 1 (.int .i64 (bB (bstT m a 33)))
          have z0 : ((W2.setCell ⟨S0, 0, none⟩ (.int .u32 (bA a (bstT m a 33)))).setCell ⟨S0, 1, none⟩ (.int .i64 (bB (bstT m a 33)))).cell? ⟨S0, 0, none⟩ = some (.int .u32 (bA a (bstT m a 33))) := blk_cell z 0
          have z1 : ((W2.setCell ⟨S0, 0, none⟩ (.int .u32 (bA a (bstT m a 33)))).setCell ⟨S0, 1, none⟩ (.int .i64 (bB (bstT m a 33)))).cell? ⟨S0, 1, none⟩ = some (.int .i64 (bB (bstT m a 33))) := blk_cell z 1
          have hend : Hid (Below w.heap.size w ((W2.setCell ⟨S0, 0, none⟩ (.int .u32 (bA a (bstT m a 33)))).setCell ⟨S0, 1, none⟩ (.int .i64 (bB (bstT m a 33))))) := by
            rw [← hsl.out.2.2]; exact (HB'.out.setCell (Nat.le_refl _) _).setCell (Nat.le_refl _) _
          clear z
          go_wp2_with fail
          refine bodyPost_ret (v := .tuple #[.agg #[.int .u32 (bA a (bstT m a 33)), .int .i64 (bB (bstT m a 33))], .int .i64 (bV (bstT m a 33)), .bool (bstT m a 33).isSome]) ?_ rfl ⟨rfl, hend.out⟩
          have hb33 := hbst.out
          simp only [Nat.reduceAdd] at hb33
          simp only [hb33] at z0 z1
          simp [results, Try.results21, go_sem, z0, z1, hb33, bV]
        · have e32 : ((i : Int) == 32) = false := beq_eq_false_iff_ne.mpr (by omega)
          have hk0 : W2.cell? ⟨blk (wayA a i), 0, none⟩ = some (ptrT D blk (wayA a i ++ [false])) := HT.out.nodes.kid hD false
          have hk1 : W2.cell? ⟨blk (wayA a i), 1, none⟩ = some (ptrT D blk (wayA a i ++ [true])) := HT.out.nodes.kid hD true
          have hbit : Hid (trie_bit.f a (i : Int) = some ((bitB a i).toNat : Int)) := tbit_ev a i h0 h1 (by omega)
          have hw31 : IntKind.i64.wrap (31 - (i : Int)) = ((31 - i : Nat) : Int) := by rw [IntWalk.i64_in _ (by omega)]; omega
          have f0 : W2.frozen? ⟨S2, 0, none⟩ = false := blk_frozen R10'.out _
          have f1 : W2.frozen? ⟨S2, 1, none⟩ = false := blk_frozen R10'.out _
          cases hB : bitB a i with
          | false =>
            rw [hB] at hbit
            have hor := mkHid (adrA_or0 a i (by omega) h0 h1 hB)
            go_upto_region 13 with fail
            go_upto_region 14 with (first | (go_at_call 45; (with_reducible refine (trie_bit.calls a i ((false.toNat : Nat) : Int) _ hbit.out).mono ?_); rintro e w' ⟨rfl, ⟨nd, rfl⟩⟩; (try first | exact ⟨rfl, _, World.drewN_drewN _ _ _⟩)))
            go_region
            obtain ⟨W3, hW3⟩ : ∃ W3, W3 = (W2.drewN (nd + 1)).setCell ⟨S2, 0, none⟩ (.int .u32 (adrA a (i + 1))) := ⟨_, rfl⟩
            have R4 : Hid (W3.heap[S0]? = some (.cells #[.int .u32 0, .int .i64 0] 34 (0, 0))) := by
              rw [hW3]; exact blk_far (blk_drewN R4'.out _) (show S0 ≠ S2 by have := hsl.out; omega) _
            have R7 : Hid (W3.heap[S1]? = some (.cells #[.int .u32 (bA a (bstT m a (i + 1))), .int .i64 (bB (bstT m a (i + 1)))] 34 (0, 0))) := by
              rw [hW3]; exact blk_far (blk_drewN R7'.out _) (show S1 ≠ S2 by have := hsl.out; omega) _
            have R10 : Hid (W3.heap[S2]? = some (.cells #[.int .u32 (adrA a (i + 1)), .int .i64 i] 34 (0, 0))) := by
              rw [hW3]; exact blk_set (blk_drewN R10'.out _) 0 _
            have HB : Hid (Below S0 w W3) := by
              rw [hW3]; exact (pw_below_drewN HB'.out _).setCell (show S0 ≤ S2 by have := hsl.out; omega) _
            have HT3 := mkHid (G1.out.below (show Below w.heap.size w W3 by rw [← hsl.out.2.2]; exact HB.out))
            rw [hor.out, ← hW3]
            clear hW3 R4' R7' R10' HB' q0 q1 f0 f1 hk0 hk1 HT hor
            have q1 : W3.cell? ⟨S2, 1, none⟩ = some (.int .i64 i) := blk_cell R10.out 1
            have f1 : W3.frozen? ⟨S2, 1, none⟩ = false := blk_frozen R10.out _
            have hk : W3.cell? ⟨blk (wayA a i), 0, none⟩ = some (ptrT D blk (wayA a i ++ [false])) := HT3.out.nodes.kid hD false
            have hwi : IntKind.i64.wrap ((i : Int) + 1) = ((i + 1 : Nat) : Int) := by rw [IntWalk.i64_in _ (by omega)]; omega
            have hpt : ptrT D blk (wayA a i ++ [false]) = ptrT D blk (wayA a (i + 1)) := by rw [wayA, hB]
            rw [hpt] at hk
            clear hpt
            go_wp2_with fail
            go_roundg (gk - 1)
            case measure => omega
            case rel => exact ⟨i + 1, rfl, by omega, by first | (rw [hbst.out]; done) | (rw [hbst.out]; rfl), by first | (rw [hbst.out]; done) | (rw [hbst.out]; rfl), by omega, blk_far R4.out (show S0 ≠ S2 by have := hsl.out; omega) _, blk_far R7.out (show S1 ≠ S2 by have := hsl.out; omega) _, blk_set R10.out 1 _, HB.out.setCell (show S0 ≤ S2 by have := hsl.out; omega) _⟩
          | true =>
            rw [hB] at hbit
            have hor := mkHid (adrA_or1 a i (by omega) h0 h1 hB)
            go_upto_region 13 with fail
            go_upto_region 14 with (first | (go_at_call 45; (with_reducible refine (trie_bit.calls a i ((true.toNat : Nat) : Int) _ hbit.out).mono ?_); rintro e w' ⟨rfl, ⟨nd, rfl⟩⟩; (try first | exact ⟨rfl, _, World.drewN_drewN _ _ _⟩)))
            go_region
            obtain ⟨W3, hW3⟩ : ∃ W3, W3 = (W2.drewN (nd + 1)).setCell ⟨S2, 0, none⟩ (.int .u32 (adrA a (i + 1))) := ⟨_, rfl⟩
            have R4 : Hid (W3.heap[S0]? = some (.cells #[.int .u32 0, .int .i64 0] 34 (0, 0))) := by
              rw [hW3]; exact blk_far (blk_drewN R4'.out _) (show S0 ≠ S2 by have := hsl.out; omega) _
            have R7 : Hid (W3.heap[S1]? = some (.cells #[.int .u32 (bA a (bstT m a (i + 1))), .int .i64 (bB (bstT m a (i + 1)))] 34 (0, 0))) := by
              rw [hW3]; exact blk_far (blk_drewN R7'.out _) (show S1 ≠ S2 by have := hsl.out; omega) _
            have R10 : Hid (W3.heap[S2]? = some (.cells #[.int .u32 (adrA a (i + 1)), .int .i64 i] 34 (0, 0))) := by
              rw [hW3]; exact blk_set (blk_drewN R10'.out _) 0 _
            have HB : Hid (Below S0 w W3) := by
              rw [hW3]; exact (pw_below_drewN HB'.out _).setCell (show S0 ≤ S2 by have := hsl.out; omega) _
            have HT3 := mkHid (G1.out.below (show Below w.heap.size w W3 by rw [← hsl.out.2.2]; exact HB.out))
            rw [hor.out, ← hW3]
            clear hW3 R4' R7' R10' HB' q0 q1 f0 f1 hk0 hk1 HT hor
            have q1 : W3.cell? ⟨S2, 1, none⟩ = some (.int .i64 i) := blk_cell R10.out 1
            have f1 : W3.frozen? ⟨S2, 1, none⟩ = false := blk_frozen R10.out _
            have hk : W3.cell? ⟨blk (wayA a i), 1, none⟩ = some (ptrT D blk (wayA a i ++ [true])) := HT3.out.nodes.kid hD true
            have hwi : IntKind.i64.wrap ((i : Int) + 1) = ((i + 1 : Nat) : Int) := by rw [IntWalk.i64_in _ (by omega)]; omega
            have hpt : ptrT D blk (wayA a i ++ [true]) = ptrT D blk (wayA a (i + 1)) := by rw [wayA, hB]
            rw [hpt] at hk
            clear hpt
            go_wp2_with fail
            go_roundg (gk - 1)
            case measure => omega
            case rel => exact ⟨i + 1, rfl, by omega, by first | (rw [hbst.out]; done) | (rw [hbst.out]; rfl), by first | (rw [hbst.out]; done) | (rw [hbst.out]; rfl), by omega, blk_far R4.out (show S0 ≠ S2 by have := hsl.out; omega) _, blk_far R7.out (show S1 ≠ S2 by have := hsl.out; omega) _, blk_set R10.out 1 _, HB.out.setCell (show S0 ≤ S2 by have := hsl.out; omega) _⟩
end Go.Proofs.Ytnihacajjpcjeaa

end
section
namespace Go.Proofs.Ytnihacajjpcjeaa
open Go.RowKit Go.Proofs.Ytnihacajjpcjeaa.P Go.Proofs.YtnihacajjpcjeaaW.PrintWords Go.Proofs.YtnihacajjpcjeaaW.PrintLast Go.Proofs.YtnihacajjpcjeaaW.PrintMore
set_option linter.unusedVariables false
set_option linter.unusedSimpArgs false

def lM1 : Way → Option Int := putM (fun _ => none) (wayA 167772160 8) (some 1)
def lM2 : Way → Option Int := putM lM1 (wayA 167837696 16) (some 2)
theorem l_bst : bstT lM2 167838211 33 = some (16, 2) := by decide +kernel
theorem l_none1 : ((fun _ => none : Way → Option Int) (wayA 167772160 8)).isSome = false := rfl
theorem l_none2 : (lM1 (wayA 167837696 16)).isSome = false := by decide +kernel
theorem l_adr : adrA 167838211 16 = 167837696 := by decide +kernel
theorem l_may1 : addr_May.f 167772160 ((8 : Nat) : Int) = some true := by decide +kernel
theorem l_may2 : addr_May.f 167837696 ((16 : Nat) : Int) = some true := by decide +kernel

set_option maxHeartbeats 8000000 in
set_option maxRecDepth 100000 in
theorem lives_calls (w : World) : Calls Try.prog 14 #[] w fun e w' => e = .returned (.bool true) ∧ Below w.heap.size w w' := by
  go_enter Try.func14, Try.ntmps14
  go_wp2_with fail
  refine (new_calls w).mono ?_
  rintro e w1 ⟨rfl, hs1, hT1, hB1⟩
  have HT1 := mkHid hT1
  have HB1 := mkHid hB1
  have HS1 : Hid (∀ b, b = w.heap.size → b < w1.heap.size) := fun b h => by omega
  clear hT1 hB1
  go_wp2_with fail
  refine (put_calls w1 w.heap.size _ 0 _ HT1.out 167772160 8 1 (by omega) (by omega) (by omega) (by omega) (by omega) l_may1 1 (by rw [l_none1]; rfl)).mono ?_
  rintro e w2 ⟨rfl, hT2, hK2⟩
  have HT2 := mkHid hT2
  have HB2 : Hid (Below w.heap.size w w2) := HB1.out.trans (hK2.below (B := w.heap.size) HB1.out.size (fun i hi => by omega))
  have hz2 : w1.heap.size ≤ w2.heap.size := hK2.size
  clear hT2 hK2
  go_wp2_with fail
  refine (put_calls w2 w.heap.size _ 1 _ HT2.out 167837696 16 2 (by omega) (by omega) (by omega) (by omega) (by omega) l_may2 2 (by rw [show (putM (fun _ => none) (wayA 167772160 8) (some 1)) (wayA 167837696 16) = lM1 (wayA 167837696 16) from rfl, l_none2]; rfl)).mono ?_
  rintro e w3 ⟨rfl, hT3, hK3⟩
  have HT3 := mkHid hT3
  have HB3 : Hid (Below w.heap.size w w3) := HB2.out.trans (hK3.below (B := w.heap.size) HB2.out.size (fun i hi => by
    rcases hi with h | h
    · omega
    · omega))
  clear hT3 hK3
  go_wp2_with fail
  refine (lng_calls w3 w.heap.size _ 2 _ HT3.out 167838211 (by omega) (by omega)).mono ?_
  rintro e w4 ⟨rfl, hB4⟩
  have HB4 : Hid (Below w.heap.size w w4) := below_step HB3.out (hB4.mono (Nat.le_refl _))
  rw [show putM (putM (fun _ => none) (wayA 167772160 8) (some 1)) (wayA 167837696 16) (some 2) = lM2 from rfl, l_bst]
  rw [show bA 167838211 (some ((16 : Nat), (2 : Int))) = 167837696 from l_adr, show bB (some ((16 : Nat), (2 : Int))) = 16 from rfl, show bV (some ((16 : Nat), (2 : Int))) = 2 from rfl, show (some ((16 : Nat), (2 : Int))).isSome = true from rfl]
  have heq := eqA34 9998 w4
  clear hB4
  go_wp2_with fail
  go_ret
  exact ⟨rfl, HB4.out.alloc HB4.out.size _⟩
end Go.Proofs.Ytnihacajjpcjeaa

end
section
namespace Go.Proofs.Ytnihacajjpcjeaa
open Go.RowKit Go.Proofs.Ytnihacajjpcjeaa.P Go.Proofs.YtnihacajjpcjeaaW.PrintWords Go.Proofs.YtnihacajjpcjeaaW.PrintLast Go.Proofs.YtnihacajjpcjeaaW.PrintMore
set_option linter.unusedVariables false
set_option linter.unusedSimpArgs false

/-- a trie and a plain list of the same values; w0: the world in which all began -/
structure SO (w0 w : World) (bt : Nat) (own : Nat → Prop) (n : Int) (m : Way → Option Int) (v : Value) (l : List S43) : Prop where
  below : Below w0.heap.size w0 w
  tri : Tri kI w bt own n m
  ownb : ∀ b, own b → w0.heap.size ≤ b ∧ b < w.heap.size
  row : Kd.R k43 43 w w0.heap.size (fun _ => True) v l
  dis : ∀ k, v.ownBlock = some k → ¬ own k
  rel : Rel m l
  len : n = l.length
section
variable {w0 w w' : World} {bt : Nat} {own : Nat → Prop} {n : Int} {m : Way → Option Int} {v : Value} {l : List S43}
theorem SO.read (h : SO w0 w bt own n m v l) (hb : Below w.heap.size w w') : SO w0 w' bt own n m v l :=
  ⟨h.below.trans (hb.mono h.below.size), h.tri.below hb, fun b hb' => ⟨(h.ownb b hb').1, Nat.lt_of_lt_of_le (h.ownb b hb').2 hb.size⟩, Kd.R_below h.row hb, h.dis, h.rel, h.len⟩
/-- the trie alone is written -/
theorem SO.wrote (h : SO w0 w bt own n m v l) {n' : Int} {m' : Way → Option Int} {own' : Nat → Prop} (ht : Tri kI w' bt own' n' m') (ho : ∀ b, own' b → own b ∨ (w.heap.size ≤ b ∧ b < w'.heap.size)) (hk : Kb own w w') :
    Below w0.heap.size w0 w' ∧ (∀ b, own' b → w0.heap.size ≤ b ∧ b < w'.heap.size) ∧ Kd.R k43 43 w' w0.heap.size (fun k => some k = v.ownBlock) v l ∧ (∀ k, v.ownBlock = some k → ¬ own' k) := by
  have hsz := h.below.size
  refine ⟨h.below.trans (hk.below hsz (fun i hi => (h.ownb i hi).1)), fun b hb => ?_, ?_, fun k hv hb => ?_⟩
  · rcases ho b hb with h1 | h1
    · exact ⟨(h.ownb b h1).1, Nat.lt_of_lt_of_le (h.ownb b h1).2 hk.size⟩
    · exact ⟨by omega, h1.2⟩
  · exact Kd.R_step (Kd.R_tight rfl h.row) (fun k ho hlt => hk.block k hlt (h.dis k ho.symm))
  · have hlt := Kd.R_lt h.row k hv
    rcases ho k hb with h1 | h1
    · exact h.dis k hv h1
    · omega
end
theorem number_ex (vv : Int) : ∃ x, whirligiglaw06_number.f vv = some x := by
  unfold whirligiglaw06_number.f
  split <;> exact ⟨_, rfl⟩
theorem Evt.two {α β : Type} {f : Nat → Option α} {g : Nat → Option β} {a : α} {b : β} (h : Evt f a) (k : Evt g b) : ∃ n, f n = some a ∧ g n = some b := by
  obtain ⟨K, hK⟩ := h
  obtain ⟨L, hL⟩ := k
  exact ⟨max K L, hK _ (by omega), hL _ (by omega)⟩

set_option maxHeartbeats 8000000 in
set_option maxRecDepth 100000 in
theorem step_else (w : World) (t v : Value) (kd vv a b A : Int) (h0 : kd ≠ 0) (h1 : kd ≠ 1) :
    Calls Try.prog 30 #[t, v, .agg #[.int .i64 kd, .int .i64 vv, .int .u32 a, .int .i64 b, .int .u32 A]] w fun e w' => e = .returned (.tuple #[v, .bool true]) ∧ Below w.heap.size w w' := by
  have c0 : (kd == 0) = false := beq_eq_false_iff_ne.mpr h0
  have c1 : (kd == 1) = false := beq_eq_false_iff_ne.mpr h1
  have HB0 : Hid (Below w.heap.size w (w.alloc (.cells #[.int .i64 kd, .int .i64 vv, .int .u32 a, .int .i64 b, .int .u32 A] 61))) := Below.alloc (Below.refl _ w) (Nat.le_refl _) _
  go_enter Try.func30, Try.ntmps30
  go_wp2_with fail
  go_ret2
  exact ⟨rfl, HB0.out⟩
set_option maxHeartbeats 8000000 in
set_option maxRecDepth 100000 in
theorem step_put_not (w : World) (bt : Nat) (v : Value) (vv a b A : Int) (k : Nat) (hM : addr_May.f a b = some false) (hM2 : whirligigref01_May.f k a b = some false) :
    Calls Try.prog 30 #[.pointer (some ⟨bt, 0, none⟩), v, .agg #[.int .i64 0, .int .i64 vv, .int .u32 a, .int .i64 b, .int .u32 A]] w fun e w' => e = .returned (.tuple #[v, .bool true]) ∧ Below w.heap.size w w' := by
  have HM := mkHid hM
  have HM2 := mkHid hM2
  obtain ⟨x, hx⟩ := number_ex vv
  have HX := mkHid hx
  clear hM hM2 hx
  obtain ⟨W, hW⟩ : ∃ W, W = w.alloc (.cells #[.int .i64 0, .int .i64 vv, .int .u32 a, .int .i64 b, .int .u32 A] 61) := ⟨_, rfl⟩
  have HB : Hid (Below w.heap.size w W) := by rw [hW]; exact Below.alloc (Below.refl _ w) (Nat.le_refl _) _
  have q0 : W.cell? ⟨w.heap.size, 0, none⟩ = some (.int .i64 0) := by rw [hW]; go_simp
  have q1 : W.cell? ⟨w.heap.size, 1, none⟩ = some (.int .i64 vv) := by rw [hW]; go_simp
  have q2 : W.cell? ⟨w.heap.size, 2, none⟩ = some (.int .u32 a) := by rw [hW]; go_simp
  have q3 : W.cell? ⟨w.heap.size, 3, none⟩ = some (.int .i64 b) := by rw [hW]; go_simp
  go_enter Try.func30, Try.ntmps30
  go_upto_region 2 with fail
  rw [← hW]
  clear hW
  go_upto_region 4 with fail
  go_region_held3 (fun w' => w'.cell? ⟨w.heap.size, 1, none⟩ = some (.int .i64 vv) ∧ w'.cell? ⟨w.heap.size, 2, none⟩ = some (.int .u32 a) ∧ w'.cell? ⟨w.heap.size, 3, none⟩ = some (.int .i64 b)) (go_keep)
    (first | (go_at_call 49; refine (whirligiglaw06_number.calls vv x _ HX.out).mono ?_; rintro e w1 ⟨rfl, hd⟩; obtain ⟨nd, rfl⟩ := hd) | (go_at_call 33; refine (put_not _ bt a b x HM.out).mono ?_; rintro e w2 ⟨rfl, hb⟩; have r1 := cell_keep hb (show _ = some (.int .i64 vv) from q1); have r2 := cell_keep hb (show _ = some (.int .u32 a) from q2); have r3 := cell_keep hb (show _ = some (.int .i64 b) from q3)))
  all_goals
    have HB2 := mkHid (below_step (pw_below_drewN HB.out _) hb)
    clear hb q0 q1 q2 q3 r1 HB
    go_wp2_with fail
    refine (whirligigref01_May.calls k a b false _ HM2.out).mono ?_
    rintro e w3 ⟨rfl, hb⟩
    have HB3 := mkHid (below_step HB2.out hb)
    clear hb
    go_wp2_with fail
    go_ret2
    exact ⟨rfl, HB3.out⟩
set_option maxHeartbeats 8000000 in
set_option maxRecDepth 100000 in
theorem step_put (w0 w : World) (bt : Nat) (own : Nat → Prop) (n : Int) (m : Way → Option Int) (v : Value) (l : List S43) (H : SO w0 w bt own n m v l) (vv a b A : Int) (k : Nat) (ha : isA a) (hl : l.length ≤ 100) (hM : addr_May.f a b = some true) (hM2 : whirligigref01_May.f k a b = some true) (x : Int) (hx : whirligiglaw06_number.f vv = some x)
    (l' : List S43) (is : Bool) (hP : whirligigref06_Put.f k l a b x = some (l', is)) (his : (m (wayA a b.toNat)).isSome = is) (hrel : Rel (putM m (wayA a b.toNat) (some x)) l') (hlen : (l'.length : Int) = if is = true then (l.length : Int) else l.length + 1) :
    Calls Try.prog 30 #[.pointer (some ⟨bt, 0, none⟩), v, .agg #[.int .i64 0, .int .i64 vv, .int .u32 a, .int .i64 b, .int .u32 A]] w fun e w' => ∃ (v' : Value) (own' : Nat → Prop) (n' : Int), e = .returned (.tuple #[v', .bool true]) ∧ SO w0 w' bt own' n' (putM m (wayA a b.toNat) (some x)) v' l' := by
  obtain ⟨b0, b1⟩ := may_bits hM
  obtain ⟨N, rfl⟩ : ∃ N : Nat, b = N := ⟨b.toNat, by omega⟩
  have HM := mkHid hM
  have HM2 := mkHid hM2
  have HX := mkHid hx
  have HP := mkHid hP
  have HREL := mkHid hrel
  have HLEN := mkHid hlen
  have HIS := mkHid his
  have hlo := H.len
  have hz := H.below.size
  obtain ⟨W, hW⟩ : ∃ W, W = w.alloc (.cells #[.int .i64 0, .int .i64 vv, .int .u32 a, .int .i64 N, .int .u32 A] 61) := ⟨_, rfl⟩
  have HB : Hid (Below w.heap.size w W) := by rw [hW]; exact Below.alloc (Below.refl _ w) (Nat.le_refl _) _
  have HS : Hid (SO w0 W bt own n m v l) := H.read HB.out
  have HSI : Hid (∀ b, own b → b < w.heap.size) := fun b hb => (H.ownb b hb).2
  have q0 : W.cell? ⟨w.heap.size, 0, none⟩ = some (.int .i64 0) := by rw [hW]; go_simp
  have q1 : W.cell? ⟨w.heap.size, 1, none⟩ = some (.int .i64 vv) := by rw [hW]; go_simp
  have q2 : W.cell? ⟨w.heap.size, 2, none⟩ = some (.int .u32 a) := by rw [hW]; go_simp
  have q3 : W.cell? ⟨w.heap.size, 3, none⟩ = some (.int .i64 N) := by rw [hW]; go_simp
  clear hM hM2 hx hP hrel hlen his H
  go_enter Try.func30, Try.ntmps30
  go_upto_region 2 with fail
  rw [← hW]
  clear hW
  go_upto_region 4 with fail
  have hcall : Hid (∀ i, Calls Try.prog 33 #[.pointer (some ⟨bt, 0, none⟩), .agg #[.int .u32 a, .int .i64 N], .int .i64 x] (W.drewN i) fun e w2 => e = .returned (.tuple #[.bool is, .int .i64 0]) ∧ w2.cell? ⟨w.heap.size, 1, none⟩ = some (.int .i64 vv) ∧ w2.cell? ⟨w.heap.size, 2, none⟩ = some (.int .u32 a) ∧ w2.cell? ⟨w.heap.size, 3, none⟩ = some (.int .i64 N) ∧
      Hid (∃ n' : Int, n' = l'.length ∧ Tri kI w2 bt (ownN own W w2) n' (putM m (wayA a N) (some x)) ∧ Kb own W w2)) := fun i => by
    have hS1 : SO w0 (W.drewN i) bt own n m v l := HS.out.read (pw_below_drewN (Below.refl _ W) _)
    refine (put_calls (W.drewN i) bt own n m hS1.tri a N x ha.1 (by have := ha.2; omega) (by omega) (by omega) (by omega) HM.out (l'.length : Int) (by
      rw [HLEN.out, ← HIS.out, hlo]; rfl)).mono ?_
    rintro e w2 ⟨rfl, g1, g2⟩
    have hno : ¬ own w.heap.size := fun h => absurd (HSI.out _ h) (by omega)
    refine ⟨by rw [show (m (wayA a N)).isSome = is from HIS.out], g2.cell q1 hno, g2.cell q2 hno, g2.cell q3 hno, l'.length, rfl, g1, ⟨g2.os, g2.tape, g2.output, g2.size, g2.block⟩⟩
  clear q0
  go_region_held3 (fun w' => w'.cell? ⟨w.heap.size, 1, none⟩ = some (.int .i64 vv) ∧ w'.cell? ⟨w.heap.size, 2, none⟩ = some (.int .u32 a) ∧ w'.cell? ⟨w.heap.size, 3, none⟩ = some (.int .i64 N)) (go_keep)
    (first | (go_at_call 49; refine (whirligiglaw06_number.calls vv x _ HX.out).mono ?_; rintro e w1 ⟨rfl, hd⟩; obtain ⟨nd, rfl⟩ := hd) | (go_at_call 33; refine (hcall.out _).mono ?_; rintro e w2 ⟨rfl, r1, r2, r3, hput⟩))
  all_goals
    obtain ⟨n', hn', g1, g2⟩ := hput.out
    have HW := mkHid (HS.out.wrote g1 (fun b hb => hb) g2)
    have HTR := mkHid g1
    have HN' := mkHid hn'
    clear hput g1 g2 hn' hcall HS q1 q2 q3
    go_wp2_with fail
    refine (whirligigref01_May.calls k a N true _ HM2.out).mono ?_
    rintro e w3 ⟨rfl, hb⟩
    have s1 := cell_keep hb r1
    have s2 := cell_keep hb r2
    have s3 := cell_keep hb r3
    have HT3 := mkHid (HTR.out.below hb)
    have HR3 := mkHid (Kd.R_below HW.out.2.2.1 hb)
    have HB3 : Hid (Below w0.heap.size w0 w3) := HW.out.1.trans (hb.mono HW.out.1.size)
    have HO3 : Hid (∀ b, ownN own W w2 b → w0.heap.size ≤ b ∧ b < w3.heap.size) := fun b h => ⟨(HW.out.2.1 b h).1, Nat.lt_of_lt_of_le (HW.out.2.1 b h).2 hb.size⟩
    clear hb r1 r2 r3 HTR HW
    go_upto_region 7 with fail
    obtain ⟨A0, c0, hv⟩ := Kd.R_slice HR3.out
    subst hv
    go_region_held3 (fun w' => w'.cell? ⟨w.heap.size, 1, none⟩ = some (.int .i64 vv) ∧ w'.cell? ⟨w.heap.size, 2, none⟩ = some (.int .u32 a) ∧ w'.cell? ⟨w.heap.size, 3, none⟩ = some (.int .i64 N)) (go_keep)
      (first | (go_at_call 49; refine (whirligiglaw06_number.calls vv x _ HX.out).mono ?_; rintro e w1 ⟨rfl, hd⟩; obtain ⟨nd2, rfl⟩ := hd) | (go_at_call 50; refine (whirligigref06_Put.calls k A0 c0 l a N x l' is _ ((Kd.R_reads' (Kd.R_drewN HR3.out _)).2.2) (Kd.R_reads' HR3.out).2.1 HP.out).mono ?_; rintro e w4 ⟨v4, rfl, hR4, hb4⟩; have z1 := cell_keep hb4 (show _ = some (.int .i64 vv) from s1); have z2 := cell_keep hb4 (show _ = some (.int .u32 a) from s2); have z3 := cell_keep hb4 (show _ = some (.int .i64 N) from s3)))
    all_goals
      have HS5 : Hid (SO w0 w4 bt (ownN own W w2) n' (putM m (wayA a N) (some x)) v4 l') := by
        have hz3 := HB3.out.size
        refine ⟨(pw_below_drewN HB3.out _).trans (hb4.mono hz3), (HT3.out.drewN _).below hb4, fun b h => ⟨(HO3.out b h).1, Nat.lt_of_lt_of_le (HO3.out b h).2 hb4.size⟩, Kd.R_lower hR4 hz3, fun k hk ho => ?_, HREL.out, HN'.out⟩
        have h1 := Kd.R_base hR4 k hk
        have h2 := (HO3.out k ho).2
        have h3 : w3.heap.size ≤ k := h1
        omega
      clear hb4 hR4 HB3 HT3 HO3 HR3 z1 z2 z3 s1 s2 s3
      go_wp2_with fail
      go_ret2
      exact ⟨v4, _, n', by first | rfl | simp, HS5.out⟩
set_option maxHeartbeats 8000000 in
set_option maxRecDepth 100000 in
theorem step_drop_not (w : World) (bt : Nat) (v : Value) (vv a b A : Int) (k : Nat) (hM : addr_May.f a b = some false) (hM2 : whirligigref01_May.f k a b = some false) :
    Calls Try.prog 30 #[.pointer (some ⟨bt, 0, none⟩), v, .agg #[.int .i64 1, .int .i64 vv, .int .u32 a, .int .i64 b, .int .u32 A]] w fun e w' => e = .returned (.tuple #[v, .bool true]) ∧ Below w.heap.size w w' := by
  have HM := mkHid hM
  have HM2 := mkHid hM2
  clear hM hM2
  obtain ⟨W, hW⟩ : ∃ W, W = w.alloc (.cells #[.int .i64 1, .int .i64 vv, .int .u32 a, .int .i64 b, .int .u32 A] 61) := ⟨_, rfl⟩
  have HB : Hid (Below w.heap.size w W) := by rw [hW]; exact Below.alloc (Below.refl _ w) (Nat.le_refl _) _
  have q0 : W.cell? ⟨w.heap.size, 0, none⟩ = some (.int .i64 1) := by rw [hW]; go_simp
  have q2 : W.cell? ⟨w.heap.size, 2, none⟩ = some (.int .u32 a) := by rw [hW]; go_simp
  have q3 : W.cell? ⟨w.heap.size, 3, none⟩ = some (.int .i64 b) := by rw [hW]; go_simp
  go_enter Try.func30, Try.ntmps30
  go_upto_region 2 with fail
  rw [← hW]
  clear hW
  go_wp2_with fail
  refine (drop_not _ bt a b HM.out).mono ?_
  rintro e w2 ⟨rfl, hb⟩
  have r2 := cell_keep hb q2
  have r3 := cell_keep hb q3
  have HB2 := mkHid (below_step HB.out hb)
  clear hb q0 q2 q3 HB
  go_wp2_with fail
  refine (whirligigref01_May.calls k a b false _ HM2.out).mono ?_
  rintro e w3 ⟨rfl, hb⟩
  have HB3 := mkHid (below_step HB2.out hb)
  clear hb
  go_wp2_with fail
  go_ret2
  exact ⟨rfl, HB3.out⟩
/-- Drop, whether there is a value or none -/
theorem drop_any (w : World) (bt : Nat) (own : Nat → Prop) (n : Int) (m : Way → Option Int) (hT : Tri kI w bt own n m) (hS : ∀ b, own b → b < w.heap.size) (a : Int) (N : Nat) (h0 : 0 ≤ a) (h1 : a < 4294967296) (b1 : N ≤ 32) (n0 : (m (wayA a N)).isSome = true → 0 < n) (n1 : n < 1000000) (hM : addr_May.f a N = some true) :
    Calls Try.prog 18 #[.pointer (some ⟨bt, 0, none⟩), .agg #[.int .u32 a, .int .i64 N]] w fun e w' => e = .returned (.bool (m (wayA a N)).isSome) ∧ Tri kI w' bt own (if (m (wayA a N)).isSome = true then n - 1 else n) (putM m (wayA a N) none) ∧ Kb own w w' := by
  cases hm : m (wayA a N) with
  | none =>
    refine (drop_none w bt own n m hT a N h0 h1 b1 hM hm).mono ?_
    rintro e w' ⟨rfl, hb⟩
    refine ⟨rfl, ?_, Kb.of_below hb⟩
    have e1 : putM m (wayA a N) none = m := by
      funext π
      by_cases e : π = wayA a N
      · rw [e, putM_self, hm]
      · exact putM_ne e
    rw [e1]
    exact hT.below hb
  | some v =>
    refine (drop_calls w bt own n m hT hS a N h0 h1 b1 (n0 (by rw [hm]; rfl)) n1 hM v hm).mono ?_
    rintro e w' ⟨rfl, h2, h3⟩
    exact ⟨rfl, h2, h3⟩
theorem Tri.kept {V : Type} {K : TK V} {w w' : World} {bt : Nat} {own S : Nat → Prop} {n : Int} {m : Way → Option V} (h : Tri K w bt own n m) (hk : Kept w w' S) (ho : ∀ b, own b → ¬ S b) : Tri K w' bt own n m := by
  obtain ⟨D, blk, h1, h2, h3, h4⟩ := h
  exact ⟨D, blk, ⟨h1.nodes.keep (fun π hp => hk.2 _ (h1.nodes.lt hp) (ho _ (h4 π hp))), (hk.2 _ (blk_lt h1.root) (ho _ h3)).trans h1.root, h1.ne⟩, h2, h3, h4⟩
set_option maxHeartbeats 8000000 in
set_option maxRecDepth 100000 in
theorem step_drop (w0 w : World) (bt : Nat) (own : Nat → Prop) (n : Int) (m : Way → Option Int) (v : Value) (l : List S43) (H : SO w0 w bt own n m v l) (vv a b A : Int) (k : Nat) (ha : isA a) (hl : l.length ≤ 100) (hM : addr_May.f a b = some true) (hM2 : whirligigref01_May.f k a b = some true)
    (l' : List S43) (is : Bool) (hP : whirligigref06_Drop.f k l a b = some (l', is)) (his : (m (wayA a b.toNat)).isSome = is) (hrel : Rel (putM m (wayA a b.toNat) none) l') (hlen : (l.length : Int) = if is = true then (l'.length : Int) + 1 else l'.length) :
    Calls Try.prog 30 #[.pointer (some ⟨bt, 0, none⟩), v, .agg #[.int .i64 1, .int .i64 vv, .int .u32 a, .int .i64 b, .int .u32 A]] w fun e w' => ∃ (v' : Value) (own' : Nat → Prop) (n' : Int), e = .returned (.tuple #[v', .bool true]) ∧ SO w0 w' bt own' n' (putM m (wayA a b.toNat) none) v' l' := by
  obtain ⟨b0, b1⟩ := may_bits hM
  obtain ⟨N, rfl⟩ : ∃ N : Nat, b = N := ⟨b.toNat, by omega⟩
  have HM := mkHid hM
  have HM2 := mkHid hM2
  have HP := mkHid hP
  have HREL := mkHid hrel
  have HLEN := mkHid hlen
  have HIS := mkHid his
  have hlo := H.len
  have hz := H.below.size
  obtain ⟨W, hW⟩ : ∃ W, W = w.alloc (.cells #[.int .i64 1, .int .i64 vv, .int .u32 a, .int .i64 N, .int .u32 A] 61) := ⟨_, rfl⟩
  have HB : Hid (Below w.heap.size w W) := by rw [hW]; exact Below.alloc (Below.refl _ w) (Nat.le_refl _) _
  have HS : Hid (SO w0 W bt own n m v l) := H.read HB.out
  have HSI : Hid (∀ b, own b → b < w.heap.size) := fun b hb => (H.ownb b hb).2
  have q0 : W.cell? ⟨w.heap.size, 0, none⟩ = some (.int .i64 1) := by rw [hW]; go_simp
  have q2 : W.cell? ⟨w.heap.size, 2, none⟩ = some (.int .u32 a) := by rw [hW]; go_simp
  have q3 : W.cell? ⟨w.heap.size, 3, none⟩ = some (.int .i64 N) := by rw [hW]; go_simp
  clear hM hM2 hP hrel hlen his H
  go_enter Try.func30, Try.ntmps30
  go_upto_region 2 with fail
  rw [← hW]
  clear hW
  go_wp2_with fail
  refine (drop_any _ bt own n m HS.out.tri (fun b hb => (HS.out.ownb b hb).2) a N ha.1 (by have := ha.2; omega) (by omega) (fun h => by have := HLEN.out; rw [← HIS.out] at this; rw [hlo, this]; rw [show (m (wayA a ((N : Int)).toNat)).isSome = true from h]; simp <;> omega) (by omega) HM.out).mono ?_
  rintro e w2 ⟨rfl, g1, g2⟩
  have hno : ¬ own w.heap.size := fun h => absurd (HSI.out _ h) (by omega)
  have r2 := g2.cell q2 hno
  have r3 := g2.cell q3 hno
  have HW := mkHid (HS.out.wrote g1 (fun b hb => .inl hb) g2)
  have HTR := mkHid g1
  rw [show (m (wayA a N)).isSome = is from HIS.out]
  clear g1 g2 HS q0 q2 q3 HB hno
  go_wp2_with fail
  refine (whirligigref01_May.calls k a N true _ HM2.out).mono ?_
  rintro e w3 ⟨rfl, hb⟩
  have s2 := cell_keep hb r2
  have s3 := cell_keep hb r3
  have HT3 := mkHid (HTR.out.below hb)
  have HR3 := mkHid (Kd.R_below HW.out.2.2.1 hb)
  have HB3 : Hid (Below w0.heap.size w0 w3) := HW.out.1.trans (hb.mono HW.out.1.size)
  have HO3 : Hid (∀ b, own b → w0.heap.size ≤ b ∧ b < w3.heap.size) := fun b h => ⟨(HW.out.2.1 b h).1, Nat.lt_of_lt_of_le (HW.out.2.1 b h).2 hb.size⟩
  have HD3 : Hid (∀ k, v.ownBlock = some k → ¬ own k) := HW.out.2.2.2
  clear hb r2 r3 HTR HW
  go_wp2_with fail
  refine (whirligigref06_Drop.calls k _ v l a N l' is w0 _ HB3.out HR3.out HP.out).mono ?_
  rintro e w4 ⟨v4, rfl, hR4, hb4, hk4⟩
  have HS5 : Hid (SO w0 w4 bt own (if (m (wayA a N)).isSome = true then n - 1 else n) (putM m (wayA a N) none) v4 l') := by
    refine ⟨hb4, HT3.out.kept hk4 (fun b hb he => HD3.out b he.symm hb), fun b h => ⟨(HO3.out b h).1, Nat.lt_of_lt_of_le (HO3.out b h).2 hk4.1⟩, Kd.R_mono hR4 (fun _ _ => trivial), fun k hk ho => ?_, HREL.out, ?_⟩
    · rcases hR4.1 k hk with h | h
      · exact HD3.out k h.symm ho
      · have := (HO3.out k ho).2; omega
    · have h1 := HLEN.out
      rw [show (m (wayA a N)).isSome = is from HIS.out]
      cases is
      · simp at h1 ⊢; omega
      · simp at h1 ⊢; omega
  clear hR4 hb4 hk4 HB3 HT3 HO3 HR3 HD3 s2 s3
  go_wp2_with fail
  go_ret2
  exact ⟨v4, _, _, by first | rfl | simp, HS5.out⟩
end Go.Proofs.Ytnihacajjpcjeaa

end
section
namespace Go.Proofs.Ytnihacajjpcjeaa
open Go.RowKit Go.Proofs.Ytnihacajjpcjeaa.P Go.Proofs.YtnihacajjpcjeaaW.PrintWords Go.Proofs.YtnihacajjpcjeaaW.PrintLast Go.Proofs.YtnihacajjpcjeaaW.PrintMore
set_option linter.unusedVariables false
set_option linter.unusedSimpArgs false

/-- how many of a list's prefixes lie below a way -/
def cntT (l : List S43) (π : Way) : Nat := l.countP fun x => π.isPrefixOf (wayP x.f0)
section
variable {w : World} {bt : Nat} {n : Int} {D : Way → Bool} {m : Way → Option Int} {blk : Way → Nat} {l : List S43}
theorem D_len (hR : Rel m l) (hG : ∀ π, D π = true → ∃ ρ, (m (π ++ ρ)).isSome = true) {π : Way} (hD : D π = true) : π.length ≤ 32 := by
  obtain ⟨ρ, hr⟩ := hG π hD
  obtain ⟨v, hv⟩ := Option.isSome_iff_exists.1 hr
  obtain ⟨x, hx, hw⟩ := hR.all _ v hv
  have := congrArg List.length hw
  unfold wayP at this
  rw [wayA_len, List.length_append] at this
  have := okP_bits (hR.ok x hx).1
  omega
end

end Go.Proofs.Ytnihacajjpcjeaa

end
section
namespace Go.Proofs.Ytnihacajjpcjeaa
open Go.RowKit Go.Proofs.Ytnihacajjpcjeaa.P Go.Proofs.YtnihacajjpcjeaaW.PrintWords Go.Proofs.YtnihacajjpcjeaaW.PrintLast Go.Proofs.YtnihacajjpcjeaaW.PrintMore
set_option linter.unusedVariables false
set_option linter.unusedSimpArgs false

theorem adrW_lt (π : Way) (h : π.length ≤ 32) : 0 ≤ adrW π ∧ adrW π < 4294967296 := by
  have hp : (0 : Int) < 2 ^ (32 - π.length) := Int.pow_pos (by decide)
  have hlt := numW_lt π
  refine ⟨Int.mul_nonneg (by omega) (Int.le_of_lt hp), ?_⟩
  unfold adrW
  have e : (4294967296 : Int) = 2 ^ π.length * 2 ^ (32 - π.length) := by rw [← Int.pow_add, show π.length + (32 - π.length) = 32 by omega]; rfl
  rw [e]
  refine Int.mul_lt_mul_of_pos_right ?_ hp
  have : ((2 ^ π.length : Nat) : Int) = 2 ^ π.length := by simp
  omega
theorem adrW_isA (π : Way) (h : π.length ≤ 32) : isA (adrW π) := by
  have := adrW_lt π h; exact ⟨this.1, by omega⟩
theorem adrW_mod (π : Way) : adrW π % 2 ^ (32 - π.length) = 0 := by unfold adrW; exact Int.mul_emod_left _ _
theorem adrW_may (π : Way) (h : π.length ≤ 32) : addr_May.f (adrW π) (π.length : Int) = some true := by
  rw [may_is _ _ (adrW_isA π h), (mayB_iff _ _).2 ⟨by omega, by omega, by
      unfold un; rw [show (32 - (π.length : Int)).toNat = 32 - π.length by omega]; exact adrW_mod π⟩]
theorem numW_inj : ∀ (n : Nat) (π ρ : Way), π.length = n → ρ.length = n → numW π = numW ρ → π = ρ := by
  intro n
  induction n with
  | zero => intro π ρ h k _; rw [List.length_eq_zero_iff.1 h, List.length_eq_zero_iff.1 k]
  | succ n ih =>
    intro π ρ h k e
    rcases List.eq_nil_or_concat π with rfl | ⟨π', b, rfl⟩
    · simp at h
    rcases List.eq_nil_or_concat ρ with rfl | ⟨ρ', c, rfl⟩
    · simp at k
    rw [List.concat_eq_append] at *
    rw [List.concat_eq_append] at *
    rw [numW_snoc, numW_snoc] at e
    have hb : b = c := by cases b <;> cases c <;> simp at e ⊢ <;> omega
    subst hb
    rw [ih π' ρ' (by simpa using h) (by simpa using k) (by omega)]
theorem wayA_adrW (π : Way) (h : π.length ≤ 32) : wayA (adrW π) π.length = π := by
  have hb := adrW_lt π h
  have h1 := adrW_way (adrW π) hb.1 hb.2 π.length h
  have h2 : adrA (adrW π) π.length = adrW π := by unfold adrA; rw [adrW_mod]; omega
  rw [h2] at h1
  refine numW_inj π.length _ _ (wayA_len _ _) rfl ?_
  unfold adrW at h1
  rw [wayA_len] at h1
  have hp : (2 : Int) ^ (32 - π.length) ≠ 0 := by have : (0 : Int) < 2 ^ (32 - π.length) := Int.pow_pos (by decide); omega
  have := Int.eq_of_mul_eq_mul_right hp h1
  have h3 : adrW π = (numW π : Int) * 2 ^ (32 - π.length) := rfl
  rw [← h3] at this
  omega
end Go.Proofs.Ytnihacajjpcjeaa

end
section
set_option linter.unusedVariables false
set_option linter.unusedSimpArgs false
namespace Go.Proofs.Ytnihacajjpcjeaa.P
open Go.RowKit Go.Proofs.YtnihacajjpcjeaaW.PrintWords Go.Proofs.YtnihacajjpcjeaaW.PrintLast Go.Proofs.YtnihacajjpcjeaaW.PrintMore

/-- does a prefix have an address? -/
def inB (a b x : Int) : Bool := decide (x - x % un b = a)
theorem refHasLoop_ev : ∀ (d : Nat) (a b x i : Int), isA a → isA x → 0 ≤ i → i ≤ b → b ≤ 32 → b - i = d → a / un i = x / un i →
    Evt (fun k => whirligigref01_Has.l0 k x i a b) (decide (a / un b = x / un b)) := by
  intro d
  induction d with
  | zero =>
    intro a b x i ha hx h0 h1 h2 hd he
    obtain rfl : i = b := by omega
    refine Evt.step ?_
    simp only [whirligigref01_Has.l0]
    refine Evt.ite_neg (by omega) (Evt.of fun k => ?_)
    rw [decide_eq_true he]
  | succ d ih =>
    intro a b x i ha hx h0 h1 h2 hd he
    refine Evt.step ?_
    simp only [whirligigref01_Has.l0]
    refine Evt.ite_pos (by omega) ?_
    refine Evt.bind (refBit_ev a i ha h0 (by omega)) ?_
    refine Evt.bind (refBit_ev x i hx h0 (by omega)) ?_
    have hp := un_pos (i + 1)
    have ea : a / un (i + 1) / 2 = a / un i := by rw [Int.ediv_ediv_of_nonneg (Int.le_of_lt hp), Int.mul_comm, ← un_succ i (by omega)]
    have ex : x / un (i + 1) / 2 = x / un i := by rw [Int.ediv_ediv_of_nonneg (Int.le_of_lt hp), Int.mul_comm, ← un_succ i (by omega)]
    by_cases hb : bitI a i = bitI x i
    · refine Evt.ite_pos hb ?_
      rw [wrap64_in _ (by omega) (by omega)]
      refine ih a b x (i + 1) ha hx (by omega) (by omega) h2 (by omega) ?_
      unfold bitI at hb
      omega
    · refine Evt.ite_neg hb (Evt.of fun k => ?_)
      rw [decide_eq_false]
      intro hn
      apply hb
      have key : ∀ j : Nat, i + 1 + j ≤ 32 → a / un (i + 1 + j) = x / un (i + 1 + j) → a / un (i + 1) = x / un (i + 1) := by
        intro j
        induction j with
        | zero => intro _ h; simpa using h
        | succ j ihj =>
          intro hj h
          apply ihj (by omega)
          have hp2 := un_pos (i + 1 + j + 1)
          have e : ∀ z : Int, z / un (i + 1 + j) = z / un (i + 1 + j + 1) / 2 := fun z => by
            rw [Int.ediv_ediv_of_nonneg (Int.le_of_lt hp2), Int.mul_comm, ← un_succ (i + 1 + j) (by omega)]
          rw [e a, e x]
          have h' : a / un (i + 1 + j + 1) = x / un (i + 1 + j + 1) := by
            rw [show i + 1 + (j : Int) + 1 = i + 1 + ((j + 1 : Nat) : Int) by omega]; exact h
          rw [h']
      have := key (b - i - 1).toNat (by omega) (by rw [show i + 1 + (((b - i - 1).toNat : Nat) : Int) = b by omega]; exact hn)
      unfold bitI
      rw [this]
theorem div_in (a b x : Int) (hm : a % un b = 0) : (a / un b = x / un b) ↔ x - x % un b = a := by
  have hp := un_pos b
  have e1 := Int.emod_add_mul_ediv a (un b)
  have e2 := Int.emod_add_mul_ediv x (un b)
  rw [hm] at e1
  constructor
  · intro h; rw [← h] at e2; omega
  · intro h
    have : un b * (x / un b) = un b * (a / un b) := by omega
    exact (Int.eq_of_mul_eq_mul_left (by omega) this).symm
theorem refHas_ev (a b x : Int) (ha : isA a) (hx : isA x) (hm : mayB a b = true) : Evt (fun k => whirligigref01_Has.f k a b x) (inB a b x) := by
  obtain ⟨h0, h1, h2⟩ := (mayB_iff a b).1 hm
  have := refHasLoop_ev b.toNat a b x 0 ha hx (by omega) h0 h1 (by omega) (by
    have : un 0 = 4294967296 := rfl
    rw [this]
    have := ha.1; have := ha.2; have := hx.1; have := hx.2
    omega)
  unfold inB
  rw [show decide (x - x % un b = a) = decide (a / un b = x / un b) from decide_eq_decide.2 (div_in a b x h2).symm]
  exact this
end Go.Proofs.Ytnihacajjpcjeaa.P
namespace Go.Proofs.Ytnihacajjpcjeaa
open Go.RowKit Go.Proofs.Ytnihacajjpcjeaa.P Go.Proofs.YtnihacajjpcjeaaW.PrintWords Go.Proofs.YtnihacajjpcjeaaW.PrintLast Go.Proofs.YtnihacajjpcjeaaW.PrintMore
set_option linter.unusedVariables false
set_option linter.unusedSimpArgs false

theorem bit_adr (a : Int) (i j : Nat) (h : i < j) (hj : j ≤ 32) : bitB (adrA a j) i = bitB a i := by
  unfold bitB adrA
  obtain ⟨q, hq⟩ : ∃ q : Int, q = 2 ^ (32 - j) := ⟨_, rfl⟩
  obtain ⟨c, hc⟩ : ∃ c : Int, c = 2 ^ (j - 1 - i) := ⟨_, rfl⟩
  have hq0 : 0 < q := by rw [hq]; exact Int.pow_pos (by decide)
  have e : (2 : Int) ^ (31 - i) = q * c := by rw [hq, hc, ← Int.pow_add]; congr 1; omega
  have e2 : a - a % q = q * (a / q) := by have := Int.emod_add_mul_ediv a q; omega
  rw [← hq, e, e2, Int.mul_ediv_mul_of_pos _ _ hq0, ← Int.ediv_ediv_of_nonneg (Int.le_of_lt hq0)]
theorem wayA_adr (a : Int) (j : Nat) (hj : j ≤ 32) : wayA (adrA a j) j = wayA a j := by
  have : ∀ i, i ≤ j → wayA (adrA a j) i = wayA a i := by
    intro i
    induction i with
    | zero => intro _; rfl
    | succ i ih => intro h; rw [wayA, wayA, ih (by omega), bit_adr a i j (by omega) hj]
  exact this j (Nat.le_refl _)
end Go.Proofs.Ytnihacajjpcjeaa

end
section
namespace Go.Proofs.Ytnihacajjpcjeaa
open Go.RowKit Go.Proofs.Ytnihacajjpcjeaa.P Go.Proofs.YtnihacajjpcjeaaW.PrintWords Go.Proofs.YtnihacajjpcjeaaW.PrintLast Go.Proofs.YtnihacajjpcjeaaW.PrintMore
set_option linter.unusedVariables false
set_option linter.unusedSimpArgs false

/-- does a prefix contain another one? -/
def conB (p q : S34) : Bool := mayB p.f0 p.f1 && (mayB q.f0 q.f1 && (decide (p.f1 ≤ q.f1) && inB p.f0 p.f1 q.f0))
theorem refCon_ev (a b c d : Int) (ha : isA a) (hc : isA c) : Evt (fun k => whirligigref01_Contains.f k a b c d) (conB ⟨a, b⟩ ⟨c, d⟩) := by
  unfold whirligigref01_Contains.f conB
  refine Evt.bind (refMay_ev a b ha) ?_
  cases hm : mayB a b with
  | false => exact Evt.of fun k => rfl
  | true =>
    refine Evt.ite_pos rfl (Evt.bind (refMay_ev c d hc) ?_)
    simp only [Bool.true_and]
    cases hn : mayB c d with
    | false => exact Evt.of fun k => rfl
    | true =>
      refine Evt.ite_pos rfl ?_
      by_cases h : b ≤ d
      · refine Evt.ite_pos h (Evt.bind (refHas_ev a b c ha hc hm) ?_)
        simp only [h, decide_true, Bool.true_and]
        exact Evt.pure _
      · refine Evt.ite_neg h ?_
        simp only [h, decide_false, Bool.false_and, Bool.and_false]
        exact Evt.pure _
theorem drop_at {α : Type} {l r : List α} {x : α} {i : Nat} (h : l.drop i = x :: r) : i < l.length ∧ l[i]? = some x ∧ l.drop (i + 1) = r := by
  have hlt : i < l.length := by
    rcases Nat.lt_or_ge i l.length with h1 | h1
    · exact h1
    · rw [List.drop_eq_nil_of_le h1] at h; cases h
  have e := List.drop_eq_getElem_cons hlt
  rw [e] at h
  injection h with h1 h2
  exact ⟨hlt, by rw [List.getElem?_eq_getElem hlt, h1], h2⟩
theorem rd43 {l : List S43} {i : Nat} {x : S43} (h : l[i]? = some x) : rd_T43 l (i : Int) = x := by
  unfold rd_T43; rw [Int.toNat_natCast, List.getD_eq_getElem?_getD, h]; rfl
def belL (l : List S43) (p : S34) : List S34 := (l.filter fun x => conB p x.f0).map (·.f0)
theorem below_loop (l : List S43) (a b : Int) (ha : isA a) (hok : ∀ x ∈ l, isA x.f0.f0) (hl : l.length ≤ 1000000) : ∀ (r : List S43) (i : Nat) (acc : List S34), l.drop i = r → i ≤ l.length → acc.length ≤ i → Evt (fun k => whirligigref06_Below.l0 k l acc i a b) (acc ++ belL r ⟨a, b⟩) := by
  intro r
  induction r with
  | nil =>
    intro i acc h hi hacc
    have : l.length ≤ i := List.drop_eq_nil_iff.1 h
    refine Evt.step ?_
    simp only [whirligigref06_Below.l0]
    refine Evt.ite_neg (by omega) ?_
    simp only [belL, List.filter_nil, List.map_nil, List.append_nil]
    exact Evt.pure _
  | cons x r ih =>
    intro i acc h hi hacc
    obtain ⟨hlt, hx, hr⟩ := drop_at h
    have hxa := hok x (List.mem_of_getElem? hx)
    have hw : wrap64 ((i : Int) + 1) = ((i + 1 : Nat) : Int) := by rw [wrap64_in _ (by omega) (by omega)]; omega
    refine Evt.step ?_
    simp only [whirligigref06_Below.l0]
    refine Evt.ite_pos (by omega) (Evt.ite_pos (by omega) ?_)
    rw [rd43 hx, hw]
    refine Evt.bind (refCon_ev a b x.f0.f0 x.f0.f1 ha hxa) ?_
    cases hc : conB ⟨a, b⟩ ⟨x.f0.f0, x.f0.f1⟩ with
    | true =>
      have hc' : conB ⟨a, b⟩ x.f0 = true := hc
      refine Evt.ite_pos rfl (Evt.ite_pos (by omega) ?_)
      have := ih (i + 1) (acc ++ [⟨x.f0.f0, x.f0.f1⟩]) hr (by omega) (by simp; omega)
      have e : acc ++ belL (x :: r) ⟨a, b⟩ = acc ++ [⟨x.f0.f0, x.f0.f1⟩] ++ belL r ⟨a, b⟩ := by
        simp only [belL, List.filter_cons, hc', if_true, List.map_cons, List.append_assoc, List.singleton_append]
      rw [e]; exact this
    | false =>
      have hc' : conB ⟨a, b⟩ x.f0 = false := hc
      refine Evt.ite_neg (by simp) ?_
      have := ih (i + 1) acc hr (by omega) (by omega)
      have e : acc ++ belL (x :: r) ⟨a, b⟩ = acc ++ belL r ⟨a, b⟩ := by
        simp [belL, List.filter_cons, hc']
      rw [e]; exact this
theorem below_ev (l : List S43) (a b : Int) (ha : isA a) (hok : ∀ x ∈ l, isA x.f0.f0) (hl : l.length ≤ 1000000) : Evt (fun k => whirligigref06_Below.f k l a b) (belL l ⟨a, b⟩) := by
  have := below_loop l a b ha hok hl l 0 [] rfl (by omega) (by simp)
  rw [List.nil_append] at this
  exact this
/-- an address's prefix -/
theorem inB_way {x : S34} {A : Int} (hx : okP x) (hA : isA A) : inB x.f0 x.f1 A = true ↔ wayP x = wayA A x.f1.toNat := by
  obtain ⟨b0, b1⟩ := okP_bits hx
  have e : inB x.f0 x.f1 A = decide (adrA A x.f1.toNat = x.f0) := by
    unfold inB adrA un
    rw [show (32 - x.f1).toNat = 32 - x.f1.toNat by omega]
  rw [e, decide_eq_true_eq]
  constructor
  · intro h
    unfold wayP
    rw [← h, wayA_adr _ _ (by omega)]
  · intro h
    rw [← adrA_way x.f1.toNat (by omega) hx.1.1 (by have := hx.1.2; omega) hA.1 (by have := hA.2; omega) h, okP_adr hx]
theorem conB_way {x y : S34} (hx : okP x) (hy : okP y) : conB x y = true ↔ ∃ ρ, wayP y = wayP x ++ ρ := by
  obtain ⟨b0, b1⟩ := okP_bits hx
  obtain ⟨d0, d1⟩ := okP_bits hy
  unfold conB
  rw [hx.2, hy.2, Bool.true_and, Bool.true_and, Bool.and_eq_true, decide_eq_true_eq, inB_way hx hy.1]
  constructor
  · rintro ⟨h1, h2⟩
    rw [h2]
    exact wayA_split y.f0 (by omega)
  · rintro ⟨ρ, h⟩
    have hl := congrArg List.length h
    unfold wayP at hl
    rw [List.length_append, wayA_len, wayA_len] at hl
    refine ⟨by omega, ?_⟩
    have ht := congrArg (List.take x.f1.toNat) h
    rw [List.take_left' (by unfold wayP; rw [wayA_len])] at ht
    unfold wayP at ht ⊢
    rw [wayA_take _ _ _ (by omega)] at ht
    exact ht.symm
theorem rel_at {m : Way → Option Int} {l : List S43} (hR : Rel m l) {π : Way} {v : Int} (h : m π = some v) : (⟨prefW π, v⟩ : S43) ∈ l ∧ okP (prefW π) ∧ wayP (prefW π) = π := by
  obtain ⟨y, hy, hw⟩ := hR.all π v h
  have ho := hR.ok y hy
  have e := okP_pref ho.1
  rw [hw] at e ho
  rw [h] at ho
  have e2 : y.f1 = v := (Option.some.inj ho.2).symm
  have : y = ⟨prefW π, v⟩ := by cases y; simp only at e e2; rw [e, e2]
  rw [← this, e]
  exact ⟨hy, ho.1, hw⟩
end Go.Proofs.Ytnihacajjpcjeaa

end
section
namespace Go.Proofs.Ytnihacajjpcjeaa
open Go.RowKit Go.Proofs.Ytnihacajjpcjeaa.P Go.Proofs.YtnihacajjpcjeaaW.PrintWords Go.Proofs.YtnihacajjpcjeaaW.PrintLast Go.Proofs.YtnihacajjpcjeaaW.PrintMore
set_option linter.unusedVariables false
set_option linter.unusedSimpArgs false

theorem str1_size (x : Int) : (strOfNums [x]).size = 1 := by simp [strOfNums, ByteArray.size]
theorem num_loop : ∀ (j : Nat) (n : Int) (s : ByteArray), 0 ≤ n → n < 10 ^ (j + 1) → n ≤ 1000000 → s.size + j ≤ 100 → ∃ r : ByteArray, r.size ≤ s.size + j + 1 ∧ Evt (fun k => whirligigref01_Number.l0 k n s) r := by
  intro j
  induction j with
  | zero =>
    intro n s h0 h1 hm hs
    refine ⟨strOfNums [(wrap64 (48 + n)) % 256] ++ s, by rw [ByteArray.size_append, str1_size]; omega, Evt.step ?_⟩
    simp only [whirligigref01_Number.l0]
    refine Evt.ite_neg (by omega) (Evt.bindc rfl (Evt.ite_pos (by rw [str1_size]; omega) (Evt.pure _)))
  | succ j ih =>
    intro n s h0 h1 hm hs
    by_cases hn : n ≥ 10
    · have hq : Int.tdiv n 10 = n / 10 := Int.tdiv_eq_ediv_of_nonneg h0
      have hp : (10 : Int) ^ (j + 1 + 1) = 10 * 10 ^ (j + 1) := by rw [Int.pow_succ]; omega
      obtain ⟨q, hqq⟩ : ∃ q : Int, q = 10 ^ (j + 1) := ⟨_, rfl⟩
      rw [hp] at h1
      have hw : wrap64 (Int.tdiv n 10) = n / 10 := by rw [hq, wrap64_in _ (by omega) (by omega)]
      obtain ⟨r, k1, k2⟩ := ih (n / 10) (strOfNums [(wrap64 (48 + (Int.tmod n 10))) % 256] ++ s) (by omega) (by rw [← hqq] at h1 ⊢; omega) (by omega) (by rw [ByteArray.size_append, str1_size]; omega)
      refine ⟨r, by rw [ByteArray.size_append, str1_size] at k1; omega, Evt.step ?_⟩
      simp only [whirligigref01_Number.l0]
      refine Evt.ite_pos hn (Evt.bindc rfl (Evt.ite_pos (by rw [str1_size]; omega) ?_))
      rw [hw]
      exact k2
    · refine ⟨strOfNums [(wrap64 (48 + n)) % 256] ++ s, by rw [ByteArray.size_append, str1_size]; omega, Evt.step ?_⟩
      simp only [whirligigref01_Number.l0]
      refine Evt.ite_neg (by omega) (Evt.bindc rfl (Evt.ite_pos (by rw [str1_size]; omega) (Evt.pure _)))
theorem num_ex (n : Int) (h0 : 0 ≤ n) (h1 : n ≤ 999) : ∃ s : ByteArray, s.size ≤ 20 ∧ Evt (fun k => whirligigref01_Number.f k n) s := by
  obtain ⟨r, k1, k2⟩ := num_loop 2 n ⟨#[]⟩ h0 (by omega) (by omega) (by simp [ByteArray.size])
  refine ⟨r, ?_, k2⟩
  have : (⟨#[]⟩ : ByteArray).size = 0 := rfl
  omega
open Classical in
noncomputable def numS (n : Int) : ByteArray := if h : 0 ≤ n ∧ n ≤ 999 then Classical.choose (num_ex n h.1 h.2) else ⟨#[]⟩
theorem numS_size (n : Int) : (numS n).size ≤ 20 := by
  unfold numS
  split
  · rename_i h; exact (Classical.choose_spec (num_ex n h.1 h.2)).1
  · exact Nat.zero_le _
theorem numS_ev (n : Int) (h0 : 0 ≤ n) (h1 : n ≤ 999) : Evt (fun k => whirligigref01_Number.f k n) (numS n) := by
  unfold numS
  rw [dif_pos ⟨h0, h1⟩]
  exact (Classical.choose_spec (num_ex n h0 h1)).2
def opn : ByteArray := ⟨#[40]⟩
def cls : ByteArray := ⟨#[41]⟩
def stepS (s k : ByteArray) : ByteArray := ((s ++ opn) ++ k) ++ cls
theorem stepS_size (s k : ByteArray) : (stepS s k).size = s.size + k.size + 2 := by
  unfold stepS
  rw [ByteArray.size_append, ByteArray.size_append, ByteArray.size_append]
  have h1 : opn.size = 1 := rfl
  have h2 : cls.size = 1 := rfl
  omega
noncomputable def ownS (m : Way → Option Int) (π : Way) (s : ByteArray) : ByteArray := match m π with | some v => s ++ numS v | none => s
/-- is there a value below a way? -/
def hasW (l : List S43) (π : Way) : Bool := !(belL l (prefW π)).isEmpty
mutual
noncomputable def foldS (m : Way → Option Int) (l : List S43) : Nat → Way → ByteArray
  | 0, π => ownS m π ⟨#[]⟩
  | d + 1, π => ownS m π ((kidsS m l d π).foldl stepS ⟨#[]⟩)
noncomputable def kidsS (m : Way → Option Int) (l : List S43) : Nat → Way → List ByteArray
  | d, π => (if hasW l (π ++ [false]) = true then [foldS m l d (π ++ [false])] else []) ++ (if hasW l (π ++ [true]) = true then [foldS m l d (π ++ [true])] else [])
end
end Go.Proofs.Ytnihacajjpcjeaa

end
section
namespace Go.Proofs.Ytnihacajjpcjeaa
open Go.RowKit Go.Proofs.Ytnihacajjpcjeaa.P Go.Proofs.YtnihacajjpcjeaaW.PrintWords Go.Proofs.YtnihacajjpcjeaaW.PrintLast Go.Proofs.YtnihacajjpcjeaaW.PrintMore
set_option linter.unusedVariables false
set_option linter.unusedSimpArgs false

def szOk (x : ByteArray) : Prop := x.size ≤ 1000000000000
set_option maxHeartbeats 8000000 in
set_option maxRecDepth 100000 in
theorem txt_calls (w : World) (A : Option Addr) (c : Nat) (kids : List ByteArray) (v : Int) (is : Bool) (hr : Kd.C Kd.string w A kids.length kids) (hc : kids.length ≤ c) (hn : kids.length ≤ 2) (hb : ∀ x ∈ kids, szOk x) (hv : is = true → 0 ≤ v ∧ v ≤ 999) :
    Calls Try.prog 11 #[.slice A kids.length c, .int .i64 v, .bool is] w fun e w' => e = .returned (.string (if is = true then kids.foldl stepS ⟨#[]⟩ ++ numS v else kids.foldl stepS ⟨#[]⟩)) ∧ Below w.heap.size w w' := by
  have HR := mkHid hr
  have hsz : ∀ i, i ≤ kids.length → ((kids.take i).foldl stepS ⟨#[]⟩).size ≤ 10000000000000 := by
    intro i hi
    have h0 : (⟨#[]⟩ : ByteArray).size = 0 := rfl
    unfold szOk at hb
    match kids, hn, hb, hi with
    | [], _, _, _ => simp [ByteArray.size]
    | [x], _, hb, hi =>
      have := hb x (by simp)
      match i, hi with
      | 0, _ => simp [ByteArray.size]
      | 1, _ => simp only [List.take_succ_cons, List.take_zero, List.foldl_cons, List.foldl_nil, stepS_size]; omega
    | [x, y], _, hb, hi =>
      have h1 := hb x (by simp)
      have h2 := hb y (by simp)
      match i, hi with
      | 0, _ => simp [ByteArray.size]
      | 1, _ => simp only [List.take_succ_cons, List.take_zero, List.foldl_cons, List.foldl_nil, stepS_size]; omega
      | 2, _ => simp only [List.take_succ_cons, List.take_zero, List.foldl_cons, List.foldl_nil, stepS_size]; omega
  have HSZ := mkHid hsz
  have HB := mkHid hb
  have HV := mkHid hv
  obtain ⟨K, hK⟩ : ∃ K, K = (if is = true then kids.foldl stepS ⟨#[]⟩ ++ numS v else kids.foldl stepS ⟨#[]⟩) := ⟨_, rfl⟩
  have HK := mkHid hK
  rw [← hK]
  obtain ⟨ln, hln⟩ : ∃ ln, ln = kids.length := ⟨_, rfl⟩
  have HLN := mkHid hln
  rw [← hln] at hc hn ⊢
  clear hr hb hsz hK hln hv
  go_enter Try.func11, Try.ntmps11
  go_wp2_with fail
  go_loopg [7, 8] ln (fun kq v7 v8 wr => ∃ (i : Nat) (s : ByteArray), v8 = .int .i64 i ∧ i ≤ ln ∧ i + kq = ln ∧ v7 = .string s ∧ Hid (s = (kids.take i).foldl stepS ⟨#[]⟩) ∧ Hid (wr = w))
  case atStart => exact ⟨0, ⟨#[]⟩, rfl, by omega, by omega, rfl, rfl, rfl⟩
  case round =>
    obtain ⟨i, s, rfl, hi, hk, rfl, hs, hw⟩ := hrel
    have hw' := hw.out
    subst hw'
    by_cases hil : i < ln
    · have hlt : i < kids.length := by rw [← HLN.out]; exact hil
      obtain ⟨x, hx⟩ : ∃ x, kids[i]? = some x := ⟨_, List.getElem?_eq_getElem (h := hlt)⟩
      obtain ⟨b, o, hA, _, hcells⟩ := C_at HR.out (by decide) (by omega)
      subst hA
      obtain ⟨cs, hcl, hcK, hcc⟩ := hcells i x hx
      have hd : wr.cell? ⟨b, o + i, none⟩ = some (.string x) := by
        obtain rfl : cs = [.string x] := hcK
        have := hcc 0 _ rfl
        simpa [Kd.string, Kd.scalar] using this
      have hss := HSZ.out i (by omega)
      rw [← hs.out] at hss
      have hxs : szOk x := HB.out x (List.mem_of_getElem? hx)
      unfold szOk at hxs
      have hts : (kids.take (i + 1)).foldl stepS ⟨#[]⟩ = ((s ++ ⟨#[40]⟩) ++ x) ++ ⟨#[41]⟩ := by
        rw [List.take_add_one, hx, hs.out]; simp [List.foldl_append, stepS, opn, cls]
      have z1 : (⟨#[40]⟩ : ByteArray).size = 1 := rfl
      have z2 : (⟨#[41]⟩ : ByteArray).size = 1 := rfl
      have f1 : s.size + 1 ≤ 9223372036854775807 := by omega
      have f2 : (s ++ ⟨#[40]⟩).size + x.size ≤ 9223372036854775807 := by rw [ByteArray.size_append]; omega
      have f3 : ((s ++ ⟨#[40]⟩) ++ x).size + 1 ≤ 9223372036854775807 := by rw [ByteArray.size_append, ByteArray.size_append]; omega
      have f4 : s.size + 1 + x.size + 1 ≤ 9223372036854775807 := by omega
      have f5 : s.size + 1 + x.size ≤ 9223372036854775807 := by omega
      have f6 : (s ++ ⟨#[40]⟩).size + x.size + 1 ≤ 9223372036854775807 := by rw [ByteArray.size_append]; omega
      have hwi : IntKind.i64.wrap ((i : Int) + 1) = ((i + 1 : Nat) : Int) := by rw [IntWalk.i64_in _ (by omega)]; omega
      have HTS := mkHid hts
      clear hcells hcc hcK hcl hx hts hlt z1 z2 hxs
      go_wp2_with fail
      go_roundg (gk - 1)
      case measure => omega
      case rel => exact ⟨i + 1, _, rfl, by omega, by omega, rfl, HTS.out.symm, rfl⟩
    · have hsum2 : s = kids.foldl stepS ⟨#[]⟩ := by
        have := hs.out
        rw [List.take_of_length_le (by have := HLN.out; omega)] at this; exact this
      have hss := HSZ.out i (by have := HLN.out; omega)
      rw [← hs.out] at hss
      have HS2 := mkHid hsum2
      clear hsum2
      cases is with
      | true =>
        have hvv := HV.out rfl
        obtain ⟨kn, hkn⟩ := (numS_ev v hvv.1 hvv.2).ex
        have hns := numS_size v
        have f1 : s.size + (numS v).size ≤ 9223372036854775807 := by omega
        obtain ⟨nv, hnv⟩ : ∃ nv, nv = numS v := ⟨_, rfl⟩
        rw [← hnv] at f1 hkn
        have HKN := mkHid hkn
        have HNV := mkHid hnv
        clear hkn hnv hns hvv
        go_wp2_with fail
        refine (whirligigref01_Number.calls kn v nv _ HKN.out).mono ?_
        rintro e w5 ⟨rfl, hb5⟩
        have HB5 := mkHid hb5
        clear hb5
        go_wp2_with fail
        go_ret
        exact ⟨by have := HK.out; rw [this, HS2.out, HNV.out]; rfl, HB5.out⟩
      | false =>
        go_wp2_with fail
        go_ret
        exact ⟨by have := HK.out; rw [HS2.out, this]; simp, Below.refl _ _⟩
end Go.Proofs.Ytnihacajjpcjeaa

end
section
namespace Go.Proofs.Ytnihacajjpcjeaa
open Go.RowKit Go.Proofs.Ytnihacajjpcjeaa.P Go.Proofs.YtnihacajjpcjeaaW.PrintWords Go.Proofs.YtnihacajjpcjeaaW.PrintLast Go.Proofs.YtnihacajjpcjeaaW.PrintMore
set_option linter.unusedVariables false
set_option linter.unusedSimpArgs false

theorem ownS_size (m : Way → Option Int) (π : Way) (s : ByteArray) : (ownS m π s).size ≤ s.size + 20 := by
  unfold ownS
  split
  · rw [ByteArray.size_append]; have := numS_size (by assumption); omega
  · omega
theorem foldS_size (m : Way → Option Int) (l : List S43) : ∀ (d : Nat) (π : Way), (foldS m l d π).size + 24 ≤ 44 * 2 ^ d := by
  intro d
  induction d with
  | zero =>
    intro π
    rw [foldS]
    have := ownS_size m π ⟨#[]⟩
    have h0 : (⟨#[]⟩ : ByteArray).size = 0 := rfl
    omega
  | succ d ih =>
    intro π
    rw [foldS]
    have h := ownS_size m π ((kidsS m l d π).foldl stepS ⟨#[]⟩)
    have h0 : (⟨#[]⟩ : ByteArray).size = 0 := rfl
    have hk : ((kidsS m l d π).foldl stepS ⟨#[]⟩).size + 44 ≤ 44 * 2 ^ (d + 1) := by
      have i0 := ih (π ++ [false])
      have i1 := ih (π ++ [true])
      have hp : 2 ^ (d + 1) = 2 * 2 ^ d := by rw [Nat.pow_succ]; omega
      have hp1 : 1 ≤ 2 ^ d := Nat.one_le_two_pow
      rw [kidsS]
      cases hasW l (π ++ [false]) <;> cases hasW l (π ++ [true]) <;> simp only [Bool.false_eq_true, if_false, if_true, List.nil_append, List.append_nil, List.cons_append, List.foldl_cons, List.foldl_nil, stepS_size] <;> omega
    omega
theorem foldS_ok (m : Way → Option Int) (l : List S43) (d : Nat) (π : Way) (hd : d ≤ 32) : (foldS m l d π).size ≤ 1000000000000 := by
  have h := foldS_size m l d π
  have : 2 ^ d ≤ 2 ^ 32 := Nat.pow_le_pow_right (by decide) hd
  have e : (2 : Nat) ^ 32 = 4294967296 := rfl
  omega
section
variable {m : Way → Option Int} {l : List S43}
theorem at_own (hR : Rel m l) (hl : l.length ≤ 1000) (hv : ∀ x ∈ l, 0 ≤ x.f1 ∧ x.f1 ≤ 999) (π : Way) (hπ : π.length ≤ 32) (s : ByteArray) (hs : s.size ≤ 10000000000000) :
    Evt (fun k => whirligigref06_Fold.j2 k l s (adrW π) (π.length : Int)) (ownS m π s) := by
  have hp : okP (prefW π) := ⟨adrW_isA π hπ, by have h := adrW_may π hπ; rw [may_is _ _ (adrW_isA π hπ)] at h; exact Option.some.inj h⟩
  have hw : wayP (prefW π) = π := by
    show wayA (adrW π) ((π.length : Int)).toNat = π
    rw [Int.toNat_natCast, wayA_adrW π hπ]
  obtain ⟨u, t, s1, s2, s3, s4⟩ := atL_spec (prefW π) l hR.srt
  have his := at_mem hR hp s2 s3 s4
  rw [hw] at his
  refine Evt.step ?_
  simp only [whirligigref06_Fold.j2]
  refine Evt.bind (at_ev l (adrW π) (π.length : Int) (by omega)) ?_
  rcases s4 with ⟨hb, x, hx, h⟩ | ⟨hb, h⟩
  · have hm : m π = some x.f1 := by
      have := (hR.ok x (by rw [h]; simp)).2
      rw [hx, hw] at this; exact this
    have hb' : (atL ⟨adrW π, (π.length : Int)⟩ l).2 = true := hb
    have hul : u.length < l.length := by rw [h]; simp
    have hs1 : (atL ⟨adrW π, (π.length : Int)⟩ l).1 = u.length := s1
    have hrd : rd_T43 l ((atL ⟨adrW π, (π.length : Int)⟩ l).1 : Int) = x := rd43 (by rw [hs1, h]; simp)
    have hvx := hv x (by rw [h]; simp)
    have hn := numS_size x.f1
    refine Evt.ite_pos hb' (Evt.ite_pos (by omega) (Evt.ite_pos (by rw [hs1]; omega) ?_))
    rw [hrd]
    refine Evt.bind (numS_ev x.f1 hvx.1 hvx.2) (Evt.ite_pos (by omega) ?_)
    unfold ownS
    rw [hm]
    exact Evt.pure _
  · have hb' : (atL ⟨adrW π, (π.length : Int)⟩ l).2 = false := hb
    refine Evt.ite_neg (by rw [hb']; simp) ?_
    have hm : m π = none := by
      rw [hb] at his
      cases hmm : m π with
      | none => rfl
      | some v => rw [hmm] at his; cases his
    unfold ownS
    rw [hm]
    exact Evt.pure _
/-- the loop that makes the unit -/
theorem unit_loop (s : ByteArray) (x6 : Int) (a : Int) (n : Nat) (R : ByteArray) (a' b' : Int) (hn : n < 32) (hend : Evt (fun k => whirligigref06_Fold.l1 k l s x6 (2 ^ (31 - n)) 32 a (n : Int) a' b') R) :
    ∀ (j i : Nat), i + j = 32 → n + 1 ≤ i → Evt (fun k => whirligigref06_Fold.l1 k l s x6 (2 ^ (i - n - 1)) (i : Int) a (n : Int) a' b') R := by
  intro j
  induction j with
  | zero =>
    intro i h1 h2
    obtain rfl : i = 32 := by omega
    rw [show 32 - n - 1 = 31 - n by omega]
    exact hend
  | succ j ih =>
    intro i h1 h2
    have := ih (i + 1) (by omega) (by omega)
    refine Evt.step ?_
    simp only [whirligigref06_Fold.l1]
    refine Evt.ite_pos (by omega) ?_
    have hp : (2 : Int) ^ (i - n - 1) * 2 = 2 ^ (i + 1 - n - 1) := by
      rw [show i + 1 - n - 1 = (i - n - 1) + 1 by omega, Int.pow_succ]
    have hle : (2 : Int) ^ (i + 1 - n - 1) < 4294967296 := by
      have h3 : (2 : Nat) ^ (i + 1 - n - 1) ≤ 2 ^ 31 := Nat.pow_le_pow_right (by decide) (by omega)
      have h4 : ((2 ^ (i + 1 - n - 1) : Nat) : Int) = 2 ^ (i + 1 - n - 1) := by simp
      have h5 : (2 : Nat) ^ 31 = 2147483648 := rfl
      omega
    have hpos : (0 : Int) < 2 ^ (i + 1 - n - 1) := Int.pow_pos (by decide)
    have hw : wrap64 ((i : Int) + 1) = ((i + 1 : Nat) : Int) := by rw [wrap64_in _ (by omega) (by omega)]; omega
    rw [hp, Int.emod_eq_of_lt (by omega) hle, hw]
    exact this
theorem kid_ev (hR : Rel m l) (hl : l.length ≤ 1000) (d : Nat) (π : Way) (hπ : π.length + (d + 1) = 32) (b : Bool) (s : ByteArray) (hs : s.size ≤ 10000000000000)
    (ih : Evt (fun k => whirligigref06_Fold.f k l (adrW (π ++ [b])) ((π ++ [b]).length : Int)) (foldS m l d (π ++ [b]))) (R : ByteArray)
    (hcont : Evt (fun k => whirligigref06_Fold.l0 k l (if hasW l (π ++ [b]) = true then stepS s (foldS m l d (π ++ [b])) else s) ((b.toNat : Int) + 1) (adrW π) (π.length : Int)) R) :
    Evt (fun k => whirligigref06_Fold.l0 k l s (b.toNat : Int) (adrW π) (π.length : Int)) R := by
  have hlt : π.length < 32 := by omega
  have hbn : (b.toNat : Int) = 0 ∨ (b.toNat : Int) = 1 := by cases b <;> simp
  have hw : wrap64 ((π.length : Int) + 1) = ((π.length + 1 : Nat) : Int) := by rw [wrap64_in _ (by omega) (by omega)]; omega
  refine Evt.step ?_
  simp only [whirligigref06_Fold.l0]
  refine Evt.ite_pos (by omega) ?_
  rw [hw]
  have key := unit_loop (l := l) s (b.toNat : Int) (adrW π) π.length R (adrW π) ((π.length + 1 : Nat) : Int) hlt ?_ (31 - π.length) (π.length + 1) (by omega) (by omega)
  · rw [show π.length + 1 - π.length - 1 = 0 by omega] at key
    exact key
  · have hT := adrW_lt (π ++ [b]) (by simp; omega)
    have eT := adrW_snoc π b hlt
    have e1 : (adrW π + (b.toNat : Int) * 2 ^ (31 - π.length)) % 4294967296 = adrW (π ++ [b]) := by rw [← eT]; exact Int.emod_eq_of_lt hT.1 hT.2
    have hlen : ((π.length + 1 : Nat) : Int) = ((π ++ [b]).length : Int) := by simp
    have hc1 : ((b.toNat : Int) + 1) % 4294967296 = (b.toNat : Int) + 1 := by omega
    refine Evt.step ?_
    simp only [whirligigref06_Fold.l1]
    refine Evt.ite_neg (by omega) ?_
    rw [e1, hlen, hc1]
    refine Evt.bind (below_ev l (adrW (π ++ [b])) ((π ++ [b]).length : Int) (adrW_isA _ (by simp; omega)) (fun x hx => (hR.ok x hx).1.1) (by omega)) ?_
    have hbel : belL l ⟨adrW (π ++ [b]), ((π ++ [b]).length : Int)⟩ = belL l (prefW (π ++ [b])) := rfl
    rw [hbel]
    cases hh : hasW l (π ++ [b]) with
    | true =>
      rw [hh, if_pos rfl] at hcont
      have hne : (0 : Int) < ((belL l (prefW (π ++ [b]))).length : Int) := by
        unfold hasW at hh
        cases hq : belL l (prefW (π ++ [b])) with
        | nil => rw [hq] at hh; simp at hh
        | cons x r => simp
      have hfs := foldS_ok m l d (π ++ [b]) (by omega)
      have z1 : (⟨#[40]⟩ : ByteArray).size = 1 := rfl
      refine Evt.ite_pos hne (Evt.ite_pos (by omega) (Evt.bind ih (Evt.ite_pos (by rw [ByteArray.size_append]; omega) (Evt.ite_pos (by rw [ByteArray.size_append, ByteArray.size_append]; omega) ?_))))
      exact hcont
    | false =>
      rw [hh] at hcont
      have hne : ¬ ((belL l (prefW (π ++ [b]))).length : Int) > 0 := by
        unfold hasW at hh
        cases hq : belL l (prefW (π ++ [b])) with
        | nil => simp
        | cons x r => rw [hq] at hh; simp at hh
      refine Evt.ite_neg hne ?_
      simpa using hcont
theorem fold_ev (hR : Rel m l) (hl : l.length ≤ 1000) (hv : ∀ x ∈ l, 0 ≤ x.f1 ∧ x.f1 ≤ 999) : ∀ (d : Nat) (π : Way), π.length + d = 32 → Evt (fun k => whirligigref06_Fold.f k l (adrW π) (π.length : Int)) (foldS m l d π) := by
  intro d
  induction d with
  | zero =>
    intro π hπ
    refine Evt.step ?_
    simp only [whirligigref06_Fold.f]
    refine Evt.ite_neg (by omega) ?_
    rw [foldS]
    exact at_own hR hl hv π (by omega) ⟨#[]⟩ (by simp [ByteArray.size])
  | succ d ih =>
    intro π hπ
    refine Evt.step ?_
    simp only [whirligigref06_Fold.f]
    refine Evt.ite_pos (by omega) ?_
    have h0 : (⟨#[]⟩ : ByteArray).size = 0 := rfl
    have f0 := foldS_ok m l d (π ++ [false]) (by omega)
    have f1 := foldS_ok m l d (π ++ [true]) (by omega)
    obtain ⟨s1, hs1⟩ : ∃ s1, s1 = (if hasW l (π ++ [false]) = true then stepS ⟨#[]⟩ (foldS m l d (π ++ [false])) else ⟨#[]⟩) := ⟨_, rfl⟩
    obtain ⟨s2, hs2⟩ : ∃ s2, s2 = (if hasW l (π ++ [true]) = true then stepS s1 (foldS m l d (π ++ [true])) else s1) := ⟨_, rfl⟩
    have z1 : s1.size ≤ 1000000000002 := by
      rw [hs1]
      split
      · rw [stepS_size]; omega
      · omega
    have z2 : s2.size ≤ 3000000000000 := by
      rw [hs2]
      split
      · rw [stepS_size]; omega
      · omega
    have e2 : s2 = (kidsS m l d π).foldl stepS ⟨#[]⟩ := by
      rw [hs2, hs1, kidsS]
      cases hasW l (π ++ [false]) <;> cases hasW l (π ++ [true]) <;> rfl
    rw [foldS, ← e2]
    refine kid_ev hR hl d π hπ false ⟨#[]⟩ (by omega) (ih _ (by simp; omega)) _ ?_
    rw [← hs1]
    refine kid_ev hR hl d π hπ true s1 (by omega) (ih _ (by simp; omega)) _ ?_
    rw [← hs2]
    refine Evt.step ?_
    simp only [whirligigref06_Fold.l0]
    refine Evt.ite_neg (by simp) ?_
    exact at_own hR hl hv π (by omega) s2 (by omega)
end
end Go.Proofs.Ytnihacajjpcjeaa

end
section
namespace Go.Proofs.Ytnihacajjpcjeaa
open Go.RowKit Go.Proofs.Ytnihacajjpcjeaa.P Go.Proofs.YtnihacajjpcjeaaW.PrintWords Go.Proofs.YtnihacajjpcjeaaW.PrintLast Go.Proofs.YtnihacajjpcjeaaW.PrintMore
set_option linter.unusedVariables false
set_option linter.unusedSimpArgs false

/-- what came of the kids, the first j -/
def kl (D : Way → Bool) (l : List S43) (π : Way) : Nat → List Int
  | 0 => []
  | 1 => if D (π ++ [false]) = true then [(cntT l (π ++ [false]) : Int)] else []
  | _ => (if D (π ++ [false]) = true then [(cntT l (π ++ [false]) : Int)] else []) ++ (if D (π ++ [true]) = true then [(cntT l (π ++ [true]) : Int)] else [])
theorem idx0 (u0 u1 : Option Addr) : ∀ w : World, (Instr.index 82 (.agg #[.pointer u0, .pointer u1]) (.int .i64 0)).run Try.prog w = .ok (.pointer u0) w := fun _ => by kernel_rfl
theorem idx1 (u0 u1 : Option Addr) : ∀ w : World, (Instr.index 82 (.agg #[.pointer u0, .pointer u1]) (.int .i64 1)).run Try.prog w = .ok (.pointer u1) w := fun _ => by kernel_rfl
end Go.Proofs.Ytnihacajjpcjeaa

end
section
namespace Go.Proofs.Ytnihacajjpcjeaa
open Go.RowKit Go.Proofs.Ytnihacajjpcjeaa.P Go.Proofs.YtnihacajjpcjeaaW.PrintWords Go.Proofs.YtnihacajjpcjeaaW.PrintLast Go.Proofs.YtnihacajjpcjeaaW.PrintMore
set_option linter.unusedVariables false
set_option linter.unusedSimpArgs false

theorem info9 : (Try.prog.info? 9).map (fun i => (i.zero, i.size, i.bytes)) = some (some (.string ⟨#[]⟩), 1, 16) := by kernel_rfl
noncomputable def klS (D : Way → Bool) (m : Way → Option Int) (l : List S43) (e : Nat) (π : Way) : Nat → List ByteArray
  | 0 => []
  | 1 => if D (π ++ [false]) = true then [foldS m l e (π ++ [false])] else []
  | _ => (if D (π ++ [false]) = true then [foldS m l e (π ++ [false])] else []) ++ (if D (π ++ [true]) = true then [foldS m l e (π ++ [true])] else [])
theorem has_D {w : World} {bt : Nat} {n : Int} {D : Way → Bool} {m : Way → Option Int} {blk : Way → Nat} {l : List S43} (hT : TrieAt kI w bt n D m blk) (hR : Rel m l) (hG : ∀ π, D π = true → ∃ ρ, (m (π ++ ρ)).isSome = true) (ρ : Way) (hρ : ρ.length ≤ 32) : D ρ = hasW l ρ := by
  have hp : okP (prefW ρ) := ⟨adrW_isA ρ hρ, by have h := adrW_may ρ hρ; rw [may_is _ _ (adrW_isA ρ hρ)] at h; exact Option.some.inj h⟩
  have hw : wayP (prefW ρ) = ρ := by
    show wayA (adrW ρ) ((ρ.length : Int)).toNat = ρ
    rw [Int.toNat_natCast, wayA_adrW ρ hρ]
  cases hD : D ρ with
  | true =>
    obtain ⟨σ, hs⟩ := hG ρ hD
    obtain ⟨v, hv⟩ := Option.isSome_iff_exists.1 hs
    obtain ⟨k1, k2, k3⟩ := rel_at hR hv
    have hc : conB (prefW ρ) (prefW (ρ ++ σ)) = true := (conB_way hp k2).2 ⟨σ, by rw [k3, hw]⟩
    have hm : (⟨prefW (ρ ++ σ), v⟩ : S43) ∈ l.filter fun x => conB (prefW ρ) x.f0 := List.mem_filter.2 ⟨k1, hc⟩
    unfold hasW belL
    cases hq : l.filter fun x => conB (prefW ρ) x.f0 with
    | nil => rw [hq] at hm; cases hm
    | cons x r => rfl
  | false =>
    unfold hasW belL
    cases hq : l.filter fun x => conB (prefW ρ) x.f0 with
    | nil => rfl
    | cons x r =>
      have hm : x ∈ l.filter fun x => conB (prefW ρ) x.f0 := by rw [hq]; exact List.mem_cons_self
      obtain ⟨h1, h2⟩ := List.mem_filter.1 hm
      have ho := hR.ok x h1
      obtain ⟨σ, h3⟩ := (conB_way hp ho.1).1 h2
      rw [hw] at h3
      have := hT.nodes.ups σ ρ (hT.nodes.sup _ (by rw [← h3, ho.2]; rfl))
      rw [hD] at this; cases this
theorem fold_kl {w : World} {bt : Nat} {n : Int} {D : Way → Bool} {m : Way → Option Int} {blk : Way → Nat} {l : List S43} (hT : TrieAt kI w bt n D m blk) (hR : Rel m l) (hG : ∀ π, D π = true → ∃ ρ, (m (π ++ ρ)).isSome = true) (d : Nat) (π : Way) (hπ : π.length + (d + 1) = 33) :
    foldS m l d π = ownS m π ((klS D m l (d - 1) π 2).foldl stepS ⟨#[]⟩) := by
  cases d with
  | zero =>
    have h0 : ∀ b, D (π ++ [b]) = false := fun b => by
      cases h : D (π ++ [b]) with
      | false => rfl
      | true => have := D_len hR hG h; simp at this; omega
    rw [foldS]
    unfold klS
    simp [h0]
  | succ d =>
    rw [foldS, Nat.add_sub_cancel, kidsS]
    unfold klS
    rw [has_D hT hR hG (π ++ [false]) (by simp; omega), has_D hT hR hG (π ++ [true]) (by simp; omega)]
    rfl
set_option maxHeartbeats 8000000 in
set_option maxRecDepth 100000 in
theorem foldT_calls (bt : Nat) (n : Int) (D : Way → Bool) (m : Way → Option Int) (blk : Way → Nat) (l : List S43) (hR : Rel m l) (hG : ∀ π, D π = true → ∃ ρ, (m (π ++ ρ)).isSome = true) (hl : l.length ≤ 100) (hv : ∀ x ∈ l, 0 ≤ x.f1 ∧ x.f1 ≤ 999) :
    ∀ (d : Nat) (π : Way), π.length + d = 33 → D π = true → ∀ w : World, TrieAt kI w bt n D m blk →
    Calls Try.prog 38 #[.pointer (some ⟨blk π, 0, none⟩), .func (.func 11) #[] #[]] w fun e w' => e = .returned (.string (foldS m l (d - 1) π)) ∧ Below w.heap.size w w' := by
  have HRel := mkHid hR
  have HGG := mkHid hG
  have HVV := mkHid hv
  clear hR hG hv
  intro d
  induction d with
  | zero => intro π hπ hD w hT; exact absurd (D_len HRel.out HGG.out hD) (by omega)
  | succ d ih =>
    intro π hπ hD w hT
    rw [Nat.add_sub_cancel]
    have HT0 := mkHid hT
    have hc0 : w.cell? ⟨blk π, 0, none⟩ = some (ptrT D blk (π ++ [false])) := hT.nodes.kid hD false
    have hc1 : w.cell? ⟨blk π, 1, none⟩ = some (ptrT D blk (π ++ [true])) := hT.nodes.kid hD true
    obtain ⟨u0, hu0⟩ := ptrT_ptr D blk (π ++ [false])
    obtain ⟨u1, hu1⟩ := ptrT_ptr D blk (π ++ [true])
    have HU0 := mkHid hu0
    have HU1 := mkHid hu1
    rw [hu0] at hc0
    rw [hu1] at hc1
    clear hT hu0 hu1
    go_enter Try.func38, Try.ntmps38
    go_wp2_with fail
    go_loopg [5, 7, 12] 2 (fun kq v5 v7 v12 wr => ∃ (j : Nat) (A : Option Addr) (c ln : Nat), v12 = .int .i64 j ∧ j ≤ 2 ∧ j + kq = 2 ∧ v5 = .slice A ln c ∧ Hid (ln = (klS D m l (d - 1) π j).length ∧ ln ≤ j) ∧ Hid (Kd.R Kd.string 9 wr w.heap.size (fun _ => True) (.slice A ln c) (klS D m l (d - 1) π j)) ∧ Hid (Below w.heap.size w wr))
    case atStart => exact ⟨0, none, 0, 0, rfl, by omega, by omega, rfl, ⟨rfl, by omega⟩, Kd.R_nil _ _ _ _ _, Below.refl _ _⟩
    case round =>
      obtain ⟨j, A, c, ln, rfl, hj, hk, rfl, HLN, HR, HB⟩ := hrel
      have hjc : j = 0 ∨ j = 1 ∨ j = 2 := by omega
      rcases hjc with rfl | rfl | rfl
      · -- kid 0
        have hbr : (0 : Nat) = 0 := rfl
        cases hDk : D (π ++ [false]) with
        | false =>
          have hkk : klS D m l (d - 1) π 1 = klS D m l (d - 1) π 0 := by unfold klS; simp [hDk]
          have hu : u0 = none := by have := HU0.out; rw [ptrT_none hDk] at this; injection this with this; exact this.symm
          subst hu
          have xx := idx0
          go_wp2_with fail
          go_roundg (1)
          case measure => omega
          case rel => exact ⟨1, A, c, ln, rfl, by omega, by omega, rfl, ⟨by rw [hkk]; exact HLN.out.1, by have := HLN.out.2; omega⟩, by rw [hkk]; exact HR.out, HB.out⟩
        | true =>
          have hkk : klS D m l (d - 1) π 1 = klS D m l (d - 1) π 0 ++ [(foldS m l (d - 1) (π ++ [false]))] := by unfold klS; simp [hDk]
          have hu : u0 = some ⟨blk (π ++ [false]), 0, none⟩ := by have := HU0.out; rw [ptrT_some hDk] at this; injection this with this; exact this.symm
          subst hu
          have xx := idx0
          go_wp2_with fail
          refine (ih (π ++ [false]) (by rw [List.length_append]; simp; omega) hDk _ (HT0.out.below HB.out)).mono ?_
          rintro e w5 ⟨rfl, hb5⟩
          have HR5 := mkHid (Kd.R_below HR.out hb5)
          have HB5 : Hid (Below w.heap.size w w5) := below_step HB.out hb5
          clear hb5
          go_wp2_with (at_builtin; refine Kd.R_append Kd.string (w0 := w) w.heap.size ?a1 (.tmp 17) (.tmp 21) 28 9 (.string ⟨#[]⟩) 16 ?a2 ?a3 ?a4 ?a5 ?a6 ?a7 (.slice A ln c) (klS D m l (d - 1) π 0) (foldS m l (d - 1) (π ++ [false])) [.string (foldS m l (d - 1) (π ++ [false]))] (fun _ => True) (fun _ => False) ?a8 ?a9 ?aP ?aE ?aF ?aO ?aB ?aS ?aL ?_; (case a1 => rfl); (case a2 => rfl); (case a3 => exact Try.underlying28); (case a4 => exact info9); (case a5 => rfl); (case a6 => decide); (case a7 => omega); (case a8 => rfl); (case a9 => rfl); (case aP => rfl); (case aE => exact fun _ h => h.elim); (case aF => exact fun _ _ => trivial); (case aO => exact HR5.out); (case aB => exact HB5.out); (case aS => exact HB5.out.size); (case aL => have := HLN.out; omega); intro v1 w6 hR6 hB6 _ _; obtain ⟨A4, c4, h4⟩ := Kd.R_slice hR6; obtain ⟨n4, hn4⟩ : ∃ n4 : Nat, n4 = (klS D m l (d - 1) π 0 ++ [(foldS m l (d - 1) (π ++ [false]))]).length := ⟨_, rfl⟩; rw [← hn4] at h4; subst h4; have HN4 := mkHid hn4; clear hn4; have HR6 := mkHid hR6; have HB6 := mkHid hB6; clear hR6 hB6)
          go_roundg (1)
          case measure => omega
          case rel => exact ⟨1, A4, c4, n4, rfl, by omega, by omega, rfl, ⟨by rw [hkk]; exact HN4.out, by have g1 := HN4.out; have g2 := HLN.out; rw [List.length_append] at g1; simp at g1; omega⟩, by rw [hkk]; exact HR6.out, HB6.out⟩
      · -- kid 1
        have hbr : (1 : Nat) = 1 := rfl
        cases hDk : D (π ++ [true]) with
        | false =>
          have hkk : klS D m l (d - 1) π 2 = klS D m l (d - 1) π 1 := by unfold klS; simp [hDk]
          have hu : u1 = none := by have := HU1.out; rw [ptrT_none hDk] at this; injection this with this; exact this.symm
          subst hu
          have xx := idx1
          go_wp2_with fail
          go_roundg (0)
          case measure => omega
          case rel => exact ⟨2, A, c, ln, rfl, by omega, by omega, rfl, ⟨by rw [hkk]; exact HLN.out.1, by have := HLN.out.2; omega⟩, by rw [hkk]; exact HR.out, HB.out⟩
        | true =>
          have hkk : klS D m l (d - 1) π 2 = klS D m l (d - 1) π 1 ++ [(foldS m l (d - 1) (π ++ [true]))] := by unfold klS; simp [hDk]
          have hu : u1 = some ⟨blk (π ++ [true]), 0, none⟩ := by have := HU1.out; rw [ptrT_some hDk] at this; injection this with this; exact this.symm
          subst hu
          have xx := idx1
          go_wp2_with fail
          refine (ih (π ++ [true]) (by rw [List.length_append]; simp; omega) hDk _ (HT0.out.below HB.out)).mono ?_
          rintro e w5 ⟨rfl, hb5⟩
          have HR5 := mkHid (Kd.R_below HR.out hb5)
          have HB5 : Hid (Below w.heap.size w w5) := below_step HB.out hb5
          clear hb5
          go_wp2_with (at_builtin; refine Kd.R_append Kd.string (w0 := w) w.heap.size ?a1 (.tmp 17) (.tmp 21) 28 9 (.string ⟨#[]⟩) 16 ?a2 ?a3 ?a4 ?a5 ?a6 ?a7 (.slice A ln c) (klS D m l (d - 1) π 1) (foldS m l (d - 1) (π ++ [true])) [.string (foldS m l (d - 1) (π ++ [true]))] (fun _ => True) (fun _ => False) ?a8 ?a9 ?aP ?aE ?aF ?aO ?aB ?aS ?aL ?_; (case a1 => rfl); (case a2 => rfl); (case a3 => exact Try.underlying28); (case a4 => exact info9); (case a5 => rfl); (case a6 => decide); (case a7 => omega); (case a8 => rfl); (case a9 => rfl); (case aP => rfl); (case aE => exact fun _ h => h.elim); (case aF => exact fun _ _ => trivial); (case aO => exact HR5.out); (case aB => exact HB5.out); (case aS => exact HB5.out.size); (case aL => have := HLN.out; omega); intro v1 w6 hR6 hB6 _ _; obtain ⟨A4, c4, h4⟩ := Kd.R_slice hR6; obtain ⟨n4, hn4⟩ : ∃ n4 : Nat, n4 = (klS D m l (d - 1) π 1 ++ [(foldS m l (d - 1) (π ++ [true]))]).length := ⟨_, rfl⟩; rw [← hn4] at h4; subst h4; have HN4 := mkHid hn4; clear hn4; have HR6 := mkHid hR6; have HB6 := mkHid hB6; clear hR6 hB6)
          go_roundg (0)
          case measure => omega
          case rel => exact ⟨2, A4, c4, n4, rfl, by omega, by omega, rfl, ⟨by rw [hkk]; exact HN4.out, by have g1 := HN4.out; have g2 := HLN.out; rw [List.length_append] at g1; simp at g1; omega⟩, by rw [hkk]; exact HR6.out, HB6.out⟩
      · -- the kids are there
        have HTr := mkHid (HT0.out.below HB.out)
        have hx2 := HTr.out.nodes.is hD
        have hx3 : wr.cell? ⟨blk π, 3, none⟩ = some (.int .i64 ((m π).getD 0)) := HTr.out.nodes.val hD
        have hkd : ∀ x ∈ klS D m l (d - 1) π 2, szOk x := fun x hx => by
          unfold klS at hx
          rcases List.mem_append.1 hx with hx | hx
          · split at hx
            · rw [List.mem_singleton.1 hx]; exact foldS_ok m l _ _ (by omega)
            · cases hx
          · split at hx
            · rw [List.mem_singleton.1 hx]; exact foldS_ok m l _ _ (by omega)
            · cases hx
        have hsum : (if (m π).isSome = true then (klS D m l (d - 1) π 2).foldl stepS ⟨#[]⟩ ++ numS ((m π).getD 0) else (klS D m l (d - 1) π 2).foldl stepS ⟨#[]⟩) = foldS m l d π := by
          rw [fold_kl HTr.out HRel.out HGG.out d π hπ]
          unfold ownS
          cases m π <;> rfl
        have hvv : (m π).isSome = true → 0 ≤ (m π).getD 0 ∧ (m π).getD 0 ≤ 999 := fun h => by
          obtain ⟨v, hv⟩ := Option.isSome_iff_exists.1 h
          obtain ⟨x, hx, _⟩ := HRel.out.all π v hv
          have h2 := rel_at HRel.out hv
          have := HVV.out _ h2.1
          rw [hv]; exact this
        have hlen := HLN.out
        have hcall : Hid (Calls Try.prog 11 #[.slice A ln c, .int .i64 ((m π).getD 0), .bool (m π).isSome] wr.drew fun e w' => e = .returned (.string (foldS m l d π)) ∧ Below wr.drew.heap.size wr.drew w') := by
          have hRr := Kd.R_reads' (Kd.R_drew HR.out)
          have := txt_calls wr.drew A c (klS D m l (d - 1) π 2) ((m π).getD 0) (m π).isSome hRr.2.2 (by rw [← hlen.1]; exact hRr.2.1) (by rw [← hlen.1]; exact hlen.2) hkd hvv
          rw [← hlen.1, hsum] at this
          exact this
        have HB9 := mkHid (below_drew HB.out)
        clear hkd hsum hvv hlen HR HTr
        go_upto_region 8 with fail
        refine wp_region_held_drew (S := fun w' => w'.cell? ⟨blk π, 2, none⟩ = some (.bool (m π).isSome) ∧ w'.cell? ⟨blk π, 3, none⟩ = some (.int .i64 ((m π).getD 0))) (by kernel_rfl) ⟨hx2, hx3⟩ (fun hHeld => ?_)
        refine wpAnyH_take (i := 0) (oi := _) (v := ?_) rfl (by kernel_rfl) (by kernel_rfl) (by kernel_rfl) (fun _ _ _ h => h) (Or.inl ⟨by first | (simp [Region.wanted, yielded]; done) | rfl, ?_⟩) (by assumption) ?_
        rotate_left
        · intro w hSw
          first | (go_simp; done) | (go_simp; with_reducible rfl)
        (try simp only [Act.put, List.getElem_toArray, List.getElem_cons_succ, List.getElem_cons_zero, List.setIfInBounds_toArray, List.set_cons_zero, List.set_cons_succ])
        refine wpAnyH_take (i := 1) (oi := _) (v := ?_) rfl (by kernel_rfl) (by kernel_rfl) (by kernel_rfl) (fun _ _ _ h => h) (Or.inl ⟨by first | (simp [Region.wanted, yielded]; done) | rfl, ?_⟩) (by assumption) ?_
        rotate_left
        · intro w hSw
          first | (go_simp; done) | (go_simp; with_reducible rfl)
        (try simp only [Act.put, List.getElem_toArray, List.getElem_cons_succ, List.getElem_cons_zero, List.setIfInBounds_toArray, List.set_cons_zero, List.set_cons_succ])
        refine wpAnyH_take (i := 2) (oi := _) (v := ?_) rfl (by kernel_rfl) (by kernel_rfl) (by kernel_rfl) (fun _ _ _ h => h) (Or.inl ⟨by first | (simp [Region.wanted, yielded]; done) | rfl, ?_⟩) (by assumption) ?_
        rotate_left
        · intro w hSw
          first | (go_simp; done) | (go_simp; with_reducible rfl)
        (try simp only [Act.put, List.getElem_toArray, List.getElem_cons_succ, List.getElem_cons_zero, List.setIfInBounds_toArray, List.set_cons_zero, List.set_cons_succ])
        refine wpAnyH_take (i := 3) (oi := _) (v := ?_) rfl (by kernel_rfl) (by kernel_rfl) (by kernel_rfl) (fun _ _ _ h => h) (Or.inl ⟨by first | (simp [Region.wanted, yielded]; done) | rfl, ?_⟩) (by assumption) ?_
        rotate_left
        · intro w hSw
          first | (go_simp; done) | (go_simp; with_reducible rfl)
        (try simp only [Act.put, List.getElem_toArray, List.getElem_cons_succ, List.getElem_cons_zero, List.setIfInBounds_toArray, List.set_cons_zero, List.set_cons_succ])
        refine wpAnyH_take (i := 4) (oi := _) (v := ?_) rfl (by kernel_rfl) (by kernel_rfl) (by kernel_rfl) (fun _ _ _ h => h) (Or.inl ⟨by first | (simp [Region.wanted, yielded]; done) | rfl, ?_⟩) (by assumption) ?_
        rotate_left
        · intro w hSw
          first | (go_simp; done) | (go_simp; with_reducible rfl)
        (try simp only [Act.put, List.getElem_toArray, List.getElem_cons_succ, List.getElem_cons_zero, List.setIfInBounds_toArray, List.set_cons_zero, List.set_cons_succ])
        refine wpAnyH_take (i := 5) (oi := _) (v := ?_) rfl (by kernel_rfl) (by kernel_rfl) (by kernel_rfl) (fun _ _ _ h => h) (Or.inl ⟨by first | (simp [Region.wanted, yielded]; done) | rfl, ?_⟩) (by assumption) ?_
        rotate_left
        · intro w hSw
          first | (go_simp; done) | (go_simp; with_reducible rfl)
        (try simp only [Act.put, List.getElem_toArray, List.getElem_cons_succ, List.getElem_cons_zero, List.setIfInBounds_toArray, List.set_cons_zero, List.set_cons_succ])
        refine wpAnyH_take (i := 6) (oi := _) (v := ?_) rfl (by kernel_rfl) (by kernel_rfl) (by kernel_rfl) (fun _ _ _ h => h) (Or.inl ⟨by first | (simp [Region.wanted, yielded]; done) | rfl, ?_⟩) (by assumption) ?_
        rotate_left
        · intro w hSw
          first | (go_simp; done) | (go_simp; with_reducible rfl)
        (try simp only [Act.put, List.getElem_toArray, List.getElem_cons_succ, List.getElem_cons_zero, List.setIfInBounds_toArray, List.set_cons_zero, List.set_cons_succ])
        refine wpAnyH_take (i := 7) (oi := _) (v := ?_) rfl (by kernel_rfl) (by kernel_rfl) (by kernel_rfl) (fun _ _ _ h => h) (Or.inl ⟨by first | (simp [Region.wanted, yielded]; done) | rfl, ?_⟩) (by assumption) ?_
        rotate_left
        · intro w hSw
          first | (go_simp; done) | (go_simp; with_reducible rfl)
        (try simp only [Act.put, List.getElem_toArray, List.getElem_cons_succ, List.getElem_cons_zero, List.setIfInBounds_toArray, List.set_cons_zero, List.set_cons_succ])
        refine wpAnyH_take (i := 8) (oi := _) (v := ?_) rfl (by kernel_rfl) (by kernel_rfl) (by kernel_rfl) (fun _ _ _ h => h) (Or.inl ⟨by first | (simp [Region.wanted, yielded]; done) | rfl, ?_⟩) (by assumption) ?_
        rotate_left
        · intro w hSw
          first | (go_simp; done) | (go_simp; with_reducible rfl)
        (try simp only [Act.put, List.getElem_toArray, List.getElem_cons_succ, List.getElem_cons_zero, List.setIfInBounds_toArray, List.set_cons_zero, List.set_cons_succ])
        refine wpAnyH_take (i := 9) (oi := _) (v := ?_) rfl (by kernel_rfl) (by kernel_rfl) (by kernel_rfl) (fun _ _ _ h => h) (Or.inl ⟨by first | (simp [Region.wanted, yielded]; done) | rfl, ?_⟩) (by assumption) ?_
        rotate_left
        · intro w hSw
          first | (go_simp; done) | (go_simp; with_reducible rfl)
        (try simp only [Act.put, List.getElem_toArray, List.getElem_cons_succ, List.getElem_cons_zero, List.setIfInBounds_toArray, List.set_cons_zero, List.set_cons_succ])
        refine wpAnyH_ready (rs := [10]) (by kernel_rfl) (by simp) (AllReadyH.cons (o := _) rfl (fun K_ hK_ => ?_) AllReadyH.nil)
        go_simp
        (go_at_call 11; refine hcall.out.mono ?_; rintro e w5 ⟨rfl, hb5⟩)
        refine hK_.out _ _ ⟨cell_keep hb5 (show World.cell? _ _ = some (.bool (m π).isSome) from hx2), cell_keep hb5 (show World.cell? _ _ = some (.int .i64 ((m π).getD 0)) from hx3)⟩ (fun hHeld => ?_)
        clear hK_ K_
        (try simp only [Act.put, List.getElem_toArray, List.getElem_cons_succ, List.getElem_cons_zero, List.setIfInBounds_toArray, List.set_cons_zero, List.set_cons_succ])
        refine wpAnyH_take (i := 11) (oi := _) (v := ?_) rfl (by kernel_rfl) (by kernel_rfl) (by kernel_rfl) (fun _ _ _ h => h) (Or.inl ⟨by first | (simp [Region.wanted, yielded]; done) | rfl, ?_⟩) (by assumption) ?_
        rotate_left
        · intro w hSw
          first | (go_simp; done) | (go_simp; with_reducible rfl)
        (try simp only [Act.put, List.getElem_toArray, List.getElem_cons_succ, List.getElem_cons_zero, List.setIfInBounds_toArray, List.set_cons_zero, List.set_cons_succ])
        refine wpAnyH_done (by kernel_rfl) ?_ _
        have HB7 := mkHid (below_step HB9.out hb5)
        clear hb5
        go_wp2_with fail
        go_ret
        exact ⟨rfl, HB7.out⟩
set_option maxHeartbeats 8000000 in
set_option maxRecDepth 100000 in
theorem FoldT_calls (w : World) (bt : Nat) (own : Nat → Prop) (n : Int) (m : Way → Option Int) (l : List S43) (hT : Tri kI w bt own n m) (hR : Rel m l) (hl : l.length ≤ 100) (hv : ∀ x ∈ l, 0 ≤ x.f1 ∧ x.f1 ≤ 999) :
    Calls Try.prog 10 #[.pointer (some ⟨bt, 0, none⟩), .func (.func 11) #[] #[]] w fun e w' => e = .returned (.string (foldS m l 32 [])) ∧ Below w.heap.size w w' := by
  obtain ⟨D, blk, g1, g2, g3, g4⟩ := hT
  have hc := g1.cell0
  cases hD : D [] with
  | false =>
    have hnil : l = [] := by
      cases l with
      | nil => rfl
      | cons x l =>
        have h1 := g1.nodes.sup (wayP x.f0) (by rw [(hR.ok x (List.mem_cons_self)).2]; rfl)
        rw [g1.nodes.ups (wayP x.f0) [] h1] at hD; cases hD
    have hm : ∀ π, m π = none := fun π => by
      cases h : m π with
      | none => rfl
      | some v => obtain ⟨x, hx, _⟩ := hR.all π v h; rw [hnil] at hx; cases hx
    have hf : foldS m l 32 [] = ⟨#[]⟩ := by
      subst hnil
      have hh : ∀ ρ, hasW [] ρ = false := fun ρ => rfl
      rw [foldS, kidsS]
      simp only [hh]
      unfold ownS
      rw [hm]; rfl
    rw [ptrT_none hD] at hc
    rw [hf]
    have hcall := mkHid (txt_calls w none 0 [] 0 false ⟨rfl, by simp, fun h => absurd h (by simp)⟩ (Nat.le_refl _) (by simp) (by simp) (by simp))
    clear g1 g2 g3 g4 hR hf hm hv
    go_enter Try.func10, Try.ntmps10
    go_wp2_with fail
    refine hcall.out.mono ?_
    rintro e w' ⟨rfl, hb⟩
    have HB := mkHid hb
    clear hb
    go_wp2_with fail
    go_ret
    exact ⟨rfl, HB.out⟩
  | true =>
    rw [ptrT_some hD] at hc
    have hcall := mkHid (foldT_calls bt n D m blk l hR g2 hl hv 33 [] rfl hD w g1)
    clear g1 g2 g3 g4 hR hv
    go_enter Try.func10, Try.ntmps10
    go_wp2_with fail
    refine hcall.out.mono ?_
    rintro e w' ⟨rfl, hb⟩
    have HB := mkHid hb
    clear hb
    go_wp2_with fail
    go_ret
    exact ⟨rfl, HB.out⟩
end Go.Proofs.Ytnihacajjpcjeaa

end
section
namespace Go.Proofs.Ytnihacajjpcjeaa
open Go.RowKit Go.Proofs.Ytnihacajjpcjeaa.P Go.Proofs.YtnihacajjpcjeaaW.PrintWords Go.Proofs.YtnihacajjpcjeaaW.PrintLast Go.Proofs.YtnihacajjpcjeaaW.PrintMore
set_option linter.unusedVariables false
set_option linter.unusedSimpArgs false

theorem number_rng {vv y : Int} (h : whirligiglaw06_number.f vv = some y) : 0 ≤ y ∧ y ≤ 999 := by
  unfold whirligiglaw06_number.f at h
  have h1 := Int.tmod_lt_of_pos vv (show (0 : Int) < 1000 by decide)
  have h2 : -1000 < Int.tmod vv 1000 := by
    rcases Int.le_total 0 vv with h | h
    · have := Int.tmod_nonneg 1000 h; omega
    · have e : Int.tmod vv 1000 = -Int.tmod (-vv) 1000 := by rw [Int.neg_tmod]; omega
      have := Int.tmod_lt_of_pos (-vv) (show (0 : Int) < 1000 by decide); omega
  split at h
  · have e := Option.some.inj h
    rw [wrap64_in _ (by omega) (by omega)] at e
    omega
  · have e := Option.some.inj h
    omega
theorem step_anyB (w0 w : World) (bt : Nat) (own : Nat → Prop) (n : Int) (m : Way → Option Int) (v : Value) (l : List S43) (H : SO w0 w bt own n m v l) (x : S61) (ha : isA x.f2.f0) (hl : l.length ≤ 90) (hv : ∀ y ∈ l, 0 ≤ y.f1 ∧ y.f1 ≤ 999) :
    Calls Try.prog 30 #[.pointer (some ⟨bt, 0, none⟩), v, .agg #[.int .i64 x.f0, .int .i64 x.f1, .int .u32 x.f2.f0, .int .i64 x.f2.f1, .int .u32 x.f3]] w fun e w' => ∃ (v' : Value) (own' : Nat → Prop) (n' : Int) (m' : Way → Option Int) (l' : List S43), e = .returned (.tuple #[v', .bool true]) ∧ SO w0 w' bt own' n' m' v' l' ∧ l'.length ≤ l.length + 1 ∧ ∀ y ∈ l', 0 ≤ y.f1 ∧ y.f1 ≤ 999 := by
  obtain ⟨kd, vv, ⟨a, b⟩, A⟩ := x
  simp only at ha ⊢
  have hread : ∀ {f : FuncId} {args : Array Value}, Calls Try.prog f args w (fun e w' => e = .returned (.tuple #[v, .bool true]) ∧ Below w.heap.size w w') → Calls Try.prog f args w fun e w' => ∃ (v' : Value) (own' : Nat → Prop) (n' : Int) (m' : Way → Option Int) (l' : List S43), e = .returned (.tuple #[v', .bool true]) ∧ SO w0 w' bt own' n' m' v' l' ∧ l'.length ≤ l.length + 1 ∧ ∀ y ∈ l', 0 ≤ y.f1 ∧ y.f1 ≤ 999 := by
    intro f args h
    refine h.mono ?_
    rintro e w' ⟨rfl, hb⟩
    exact ⟨v, own, n, m, l, rfl, H.read hb, by omega, hv⟩
  obtain ⟨y, hy⟩ := number_ex vv
  have hyr := number_rng hy
  cases hm : mayB a b with
  | false =>
    have hM : addr_May.f a b = some false := by rw [may_is _ _ ha, hm]
    obtain ⟨k, hk⟩ := (refMay_ev a b ha).ex
    rw [hm] at hk
    by_cases h0 : kd = 0
    · subst h0; exact hread (step_put_not w bt v vv a b A k hM hk)
    · by_cases h1 : kd = 1
      · subst h1; exact hread (step_drop_not w bt v vv a b A k hM hk)
      · exact hread (step_else w _ v kd vv a b A h0 h1)
  | true =>
    have hM : addr_May.f a b = some true := by rw [may_is _ _ ha, hm]
    have hev := refMay_ev a b ha
    rw [hm] at hev
    obtain ⟨u, t, s1, s2, s3, s4⟩ := atL_spec ⟨a, b⟩ l H.rel.srt
    have hp : okP ⟨a, b⟩ := ⟨ha, hm⟩
    have his := at_mem H.rel hp s2 s3 s4
    by_cases h0 : kd = 0
    · subst h0
      obtain ⟨k, hk1, hk2⟩ := Evt.two hev (put_ev l a b y (by omega) s1 s4)
      have hlen : ((u ++ [(⟨⟨a, b⟩, y⟩ : S43)] ++ t).length : Int) = if (atL ⟨a, b⟩ l).2 = true then (l.length : Int) else l.length + 1 := by
        rcases s4 with ⟨hb, x, hx, h⟩ | ⟨hb, h⟩ <;> rw [hb, h] <;> simp <;> omega
      refine (step_put w0 w bt own n m v l H vv a b A k ha (by omega) hM hk1 y hy _ _ hk2 his (rel_put H.rel hp y s2 s3 s4) hlen).mono ?_
      rintro e w' ⟨v', own', n', rfl, hS⟩
      refine ⟨v', own', n', _, _, rfl, hS, by split at hlen <;> omega, fun z hz => ?_⟩
      have hsub : ∀ z, z ∈ u ++ t → z ∈ l := fun z hz => by
        rcases s4 with ⟨_, x, _, h⟩ | ⟨_, h⟩ <;> rw [h] <;> (rcases List.mem_append.1 hz with hz | hz <;> simp [hz])
      rcases List.mem_append.1 hz with hz | hz
      · rcases List.mem_append.1 hz with hz | hz
        · exact hv z (hsub z (List.mem_append_left _ hz))
        · rw [List.mem_singleton.1 hz]; exact hyr
      · exact hv z (hsub z (List.mem_append_right _ hz))
    · by_cases h1 : kd = 1
      · subst h1
        obtain ⟨k, hk1, hk2⟩ := Evt.two hev (drop_ev l a b (by omega) s1 s4)
        have hlen : (l.length : Int) = if (atL ⟨a, b⟩ l).2 = true then ((u ++ t).length : Int) + 1 else (u ++ t).length := by
          rcases s4 with ⟨hb, x, hx, h⟩ | ⟨hb, h⟩ <;> rw [hb, h] <;> simp <;> omega
        refine (step_drop w0 w bt own n m v l H vv a b A k ha (by omega) hM hk1 _ _ hk2 his (rel_drop H.rel hp s2 s3 s4) hlen).mono ?_
        rintro e w' ⟨v', own', n', rfl, hS⟩
        refine ⟨v', own', n', _, _, rfl, hS, by split at hlen <;> omega, fun z hz => hv z ?_⟩
        rcases s4 with ⟨_, x, _, h⟩ | ⟨_, h⟩ <;> rw [h] <;> (rcases List.mem_append.1 hz with hz | hz <;> simp [hz])
      · exact hread (step_else w _ v kd vv a b A h0 h1)

set_option maxHeartbeats 8000000 in
set_option maxRecDepth 100000 in
theorem made_b (w : World) (A0 : Option Addr) (c0 : Nat) (l0 : List S61) (hr0 : Kd.C k61 w A0 l0.length l0) (hc0 : l0.length ≤ c0) (hok : ∀ x ∈ l0, isA x.f2.f0) :
    Calls Try.prog 9 #[.slice A0 l0.length c0] w fun e w' => ∃ (bt : Nat) (own : Nat → Prop) (n : Int) (m : Way → Option Int) (v : Value) (l : List S43), e = .returned (.tuple #[.pointer (some ⟨bt, 0, none⟩), v]) ∧ SO w w' bt own n m v l ∧ l.length ≤ 30 ∧ ∀ y ∈ l, 0 ≤ y.f1 ∧ y.f1 ≤ 999 := by
  have hmax := Kd.C_max hr0
  have HR0 := mkHid hr0
  have HOK := mkHid hok
  clear hr0 hok
  go_enter Try.func9, Try.ntmps9
  go_wp2_with fail
  refine (new_calls w).mono ?_
  rintro e w1 ⟨rfl, hs1, hT1, hB1⟩
  have HS1 : Hid (SO w w1 w.heap.size (fun b => b = w.heap.size) 0 (fun _ => none) (.slice none 0 0) []) :=
    ⟨hB1, hT1, fun b h => by omega, Kd.R_nil _ _ _ _ _, fun k h => by simp [Value.ownBlock] at h, rel_nil, rfl⟩
  have HB1 := mkHid hB1
  clear hT1 hB1
  go_wp2_with fail
  go_loopg [5, 6] 30 (fun kq v5 v6 wr => ∃ (i : Nat) (own : Nat → Prop) (n : Int) (m : Way → Option Int) (l : List S43), v6 = .int .i64 i ∧ i ≤ l0.length ∧ i + kq = 30 ∧ Hid (l.length ≤ i) ∧ Hid (∀ y ∈ l, 0 ≤ y.f1 ∧ y.f1 ≤ 999) ∧ Hid (SO w wr w.heap.size own n m v5 l))
  case atStart => exact ⟨0, _, 0, _, [], rfl, by omega, by omega, Nat.le_refl _, fun y hy => (by cases hy), HS1.out⟩
  case round =>
    obtain ⟨i, own, n, m, l, rfl, hi, hk, hl, HVV, HS⟩ := hrel
    by_cases hend : i < l0.length ∧ i < 30
    · obtain ⟨q1, q2⟩ := hend
      have c2 : decide ((i : Int) < 30) = true := decide_eq_true (by omega)
      obtain ⟨x, hx⟩ : ∃ x, l0[i]? = some x := ⟨_, List.getElem?_eq_getElem (h := q1)⟩
      obtain ⟨ad, hA, d0, d1, d2, d3, d4⟩ := at_T61 (Kd.C_below HR0.out HS.out.below) (i : Int) (by omega) (by omega)
      subst hA
      have hrd : rd_T61 l0 (i : Int) = x := by unfold rd_T61; rw [Int.toNat_natCast, List.getD_eq_getElem?_getD, hx]; rfl
      rw [hrd, Int.toNat_natCast] at d0 d1 d2 d3 d4
      have hxa : isA x.f2.f0 := HOK.out x (List.mem_of_getElem? hx)
      have hw : IntKind.i64.wrap ((i : Int) + 1) = ((i + 1 : Nat) : Int) := by rw [IntWalk.i64_in _ (by omega)]; omega
      clear hrd hx
      go_wp2_with fail
      refine (step_anyB w _ _ own n m _ l HS.out x hxa (by have := hl.out; omega) HVV.out).mono ?_
      rintro e w2 ⟨v', own', n', m', l', rfl, hS, hll, hvv⟩
      have HS2 := mkHid hS
      have HV2 := mkHid hvv
      have HL2 : Hid (l'.length ≤ i + 1) := by have := hl.out; unfold Hid; omega
      clear hS hll hvv d0 d1 d2 d3 d4 hl HS
      go_wp2_with fail
      go_roundg (gk - 1)
      case measure => omega
      case rel => exact ⟨i + 1, own', n', m', l', rfl, by omega, by omega, HL2.out, HV2.out, HS2.out⟩
    · have hdec : (¬ i < l0.length) ∨ (i < l0.length ∧ decide ((i : Int) < 30) = false) := by
        by_cases h : i < l0.length
        · exact .inr ⟨h, decide_eq_false (by omega)⟩
        · exact .inl h
      rcases hdec with c1 | ⟨c1, c2⟩
      · go_wp2_with fail
        go_ret2
        exact ⟨w.heap.size, own, n, m, _, l, rfl, HS.out, by have := hl.out; omega, HVV.out⟩
      · go_wp2_with fail
        go_ret2
        exact ⟨w.heap.size, own, n, m, _, l, rfl, HS.out, by have := hl.out; omega, HVV.out⟩
end Go.Proofs.Ytnihacajjpcjeaa

end
section
namespace Go.Proofs.Ytnihacajjpcjeaa
open Go.RowKit Go.Proofs.Ytnihacajjpcjeaa.P Go.Proofs.YtnihacajjpcjeaaW.PrintWords Go.Proofs.YtnihacajjpcjeaaW.PrintLast Go.Proofs.YtnihacajjpcjeaaW.PrintMore
set_option linter.unusedVariables false
set_option linter.unusedSimpArgs false

set_option maxHeartbeats 8000000 in
set_option maxRecDepth 100000 in
theorem folds_calls (w : World) (A0 : Option Addr) (c0 : Nat) (l0 : List S61) (hr0 : Kd.C k61 w A0 l0.length l0) (hc0 : l0.length ≤ c0) (hok : ∀ x ∈ l0, isA x.f2.f0) :
    Calls Try.prog 3 #[.slice A0 l0.length c0] w fun e w' => e = .returned (.bool true) ∧ Below w.heap.size w w' := by
  have HR0 := mkHid hr0
  have HOK := mkHid hok
  clear hr0 hok
  go_enter Try.func3, Try.ntmps3
  go_wp2_with fail
  refine (made_b w A0 c0 l0 HR0.out hc0 HOK.out).mono ?_
  rintro e w1 ⟨bt, own, n, m, v, l, rfl, hSO, hl, hv⟩
  have HSO := mkHid hSO
  obtain ⟨A, c, hvv⟩ := Kd.R_slice hSO.row
  subst hvv
  obtain ⟨kf, hkf⟩ := (fold_ev hSO.rel (by omega) hv 32 [] rfl).ex
  have hadr : adrW [] = 0 := by simp [adrW, numW]
  have hkf2 : whirligigref06_Fold.f kf l 0 0 = some (foldS m l 32 []) := by rw [← hadr]; exact hkf
  have HKF := mkHid hkf2
  have HFT := mkHid (FoldT_calls w1 bt own n m l hSO.tri hSO.rel (by omega) hv)
  obtain ⟨F, hF⟩ : ∃ F, F = foldS m l 32 [] := ⟨_, rfl⟩
  rw [← hF] at HKF HFT
  clear hSO hkf hkf2 hadr hF hv
  go_wp2_with fail
  refine HFT.out.mono ?_
  rintro e w2 ⟨rfl, hb2⟩
  have HS2 := mkHid (HSO.out.read hb2)
  clear hb2 HSO HFT
  go_wp2_with fail
  refine (whirligigref06_Fold.calls kf _ A c l 0 0 F _ (Kd.R_V HS2.out.row) HKF.out).mono ?_
  rintro e w3 ⟨rfl, hb3⟩
  have HB3 := mkHid (below_step HS2.out.below hb3)
  clear hb3
  go_wp2_with fail
  refine (lives_calls _).mono ?_
  rintro e w4 ⟨rfl, hb4⟩
  have HB4 := mkHid (below_step HB3.out hb4)
  clear hb4
  go_wp2_with fail
  go_ret
  exact ⟨rfl, HB4.out⟩
end Go.Proofs.Ytnihacajjpcjeaa

end
section
namespace Go.Proofs.Ytnihacajjpcjeaa.P
open Go.RowKit Go.Proofs.YtnihacajjpcjeaaW.PrintWords Go.Proofs.YtnihacajjpcjeaaW.PrintLast Go.Proofs.YtnihacajjpcjeaaW.PrintMore
attribute [local go_sem] max2_int min2_int max_two min_two max_three min_three max_four min_four   -- for this text's walks alone
set_option linter.unusedVariables false
set_option linter.unusedSimpArgs false

def whirligiglaw06_TrieFolds.f (k : Nat) (l0 : List (S61)) : Option (Bool) := if (l0.all fun x => decide (0 ≤ x.f2.f0) && decide (x.f2.f0 ≤ 4294967295)) = true then some true else none
theorem whirligiglaw06_TrieFolds.calls (k : Nat) (A0 : Option Addr) (c0 : Nat) (l0 : List (S61)) (r : Bool) (w : World) (hr0 : Kd.C k61 w A0 l0.length l0) (hc0 : l0.length ≤ c0) (h : whirligiglaw06_TrieFolds.f k l0 = some r) :
    Calls Try.prog 3 #[.slice A0 l0.length c0] w fun e w' => e = .returned (.bool r) ∧ Below w.heap.size w w' := by
  unfold whirligiglaw06_TrieFolds.f at h
  split at h
  · rename_i hb
    obtain rfl := Option.some.inj h
    simp only [Bool.and_eq_true, List.all_eq_true, decide_eq_true_eq] at hb
    exact folds_calls w A0 c0 l0 hr0 hc0 (fun x hx => hb x hx)
  · cases h

end Go.Proofs.Ytnihacajjpcjeaa.P

end
