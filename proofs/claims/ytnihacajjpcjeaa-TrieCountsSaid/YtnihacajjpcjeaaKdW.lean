/- Rows that are read, by blocks and offsets. -/
import Derived.Test.YtnihacajjpcjeaaHid
import Derived.Test.YtnihacajjpcjeaaWWords
import Derived.Test.YtnihacajjpcjeaaWLast
import Derived.Test.YtnihacajjpcjeaaWMore
import Derived.WideShapes
set_option linter.unusedVariables false
set_option linter.unusedSimpArgs false
namespace Go.Proofs.Ytnihacajjpcjeaa
open Go.RowKit Go.Proofs.YtnihacajjpcjeaaW.PrintWords Go.Proofs.YtnihacajjpcjeaaW.PrintLast Go.Proofs.YtnihacajjpcjeaaW.PrintMore

/-- a row that is read: its block, and its cells -/
theorem C_at {α : Type} {d : Kd α} {w : World} {A : Option Addr} {n : Nat} {xs : List α} (h : d.C w A n xs) (hs : 0 < d.sz) (hn : 0 < n) :
    ∃ b o, A = some ⟨b, o, none⟩ ∧ b < w.heap.size ∧ ∀ j x, xs[j]? = some x → ∃ c, c.length = d.sz ∧ d.K w x c ∧ ∀ i u, c[i]? = some u → w.cell? ⟨b, o + j * d.sz + i, none⟩ = some u := by
  obtain ⟨h1, h2, h3⟩ := h
  obtain ⟨⟨b, o, s⟩, rfl, hc⟩ := h3 hn
  obtain ⟨x, hx⟩ : ∃ x, xs[0]? = some x := ⟨_, List.getElem?_eq_getElem (h := by omega)⟩
  obtain ⟨c, c1, c2, c3⟩ := hc 0 x hx
  have k := c3 0 _ (List.getElem?_eq_getElem (h := by omega))
  have e : (⟨b, o, s⟩ : Addr).add (0 * d.sz + 0) = ⟨b, o, s⟩ := by rw [Nat.zero_mul]; simp [Addr.add]
  rw [e] at k
  have hsp : s = none := World.cell?_spot k
  subst hsp
  refine ⟨b, o, rfl, World.block_lt_of_cell? _ _ k, fun j x hj => ?_⟩
  obtain ⟨c, c1, c2, c3⟩ := hc j x hj
  refine ⟨c, c1, c2, fun i u hu => ?_⟩
  have := c3 i u hu
  rw [WideShapes.add_plain, ← Nat.add_assoc] at this
  exact this
theorem ext_take (s : ByteArray) (n : Nat) : s.extract 0 n = ⟨(s.data.toList.take n).toArray⟩ := by
  apply ByteArray.ext
  apply Array.ext'
  rw [ByteArray.data_extract, Array.toList_extract]
  simp [List.extract_eq_take_drop]
theorem ext_drop (s : ByteArray) (n : Nat) : s.extract n s.size = ⟨(s.data.toList.drop n).toArray⟩ := by
  apply ByteArray.ext
  apply Array.ext'
  rw [ByteArray.data_extract, Array.toList_extract]
  have : s.data.toList.length = s.size := by rw [Array.length_toList]; rfl
  simp [List.extract_eq_take_drop]
  rw [List.take_of_length_le (by simp)]
theorem ext_mid (s : ByteArray) (a b : Nat) : s.extract a b = ⟨((s.data.toList.take b).drop a).toArray⟩ := by
  apply ByteArray.ext
  apply Array.ext'
  rw [ByteArray.data_extract, Array.toList_extract]
  simp [List.extract_eq_take_drop, List.drop_take]
/-- the first that meets a test; -1: none -/
def idxB {α : Type} (p : α → Bool) (l : List α) : Int := match l.findIdx? p with | some i => (i : Int) | none => -1
theorem idxB_at {α : Type} (p : α → Bool) (l : List α) (k : Nat) (x : α) (hx : l[k]? = some x) (hp : p x = true) (h : ∀ (i : Nat) (y : α), i < k → l[i]? = some y → p y = false) : idxB p l = (k : Int) := by
  unfold idxB
  obtain ⟨hk, e⟩ := List.getElem?_eq_some_iff.1 hx
  have : l.findIdx? p = some k := by
    rw [List.findIdx?_eq_some_iff_getElem]
    exact ⟨hk, by rw [e]; exact hp, fun j hj => by rw [h j _ hj (List.getElem?_eq_getElem (h := by omega))]; simp⟩
  rw [this]
theorem idxB_none {α : Type} (p : α → Bool) (l : List α) (h : ∀ (i : Nat) (y : α), l[i]? = some y → p y = false) : idxB p l = -1 := by
  unfold idxB
  have : l.findIdx? p = none := by
    rw [List.findIdx?_eq_none_iff]
    intro x hx
    obtain ⟨i, hi⟩ := List.getElem?_of_mem hx
    exact h i x hi
  rw [this]
theorem idxB_any {α : Type} (p : α → Bool) (l : List α) : decide (0 ≤ idxB p l) = l.any p := by
  unfold idxB
  cases h : l.findIdx? p with
  | none =>
    rw [List.findIdx?_eq_none_iff] at h
    symm
    show l.any p = decide ((0 : Int) ≤ -1)
    rw [show decide ((0 : Int) ≤ -1) = false from rfl, List.any_eq_false]
    intro x hx
    rw [h x hx]; simp
  | some i =>
    obtain ⟨hi, hp, _⟩ := List.findIdx?_eq_some_iff_getElem.1 h
    symm
    show l.any p = decide ((0 : Int) ≤ (i : Int))
    rw [decide_eq_true (by omega), List.any_eq_true]
    exact ⟨_, List.getElem_mem hi, hp⟩
/-- how two lists stand to one another -/
def cmpLst {α : Type} (o : α → α → Int) : List α → List α → Int
  | [], [] => 0
  | [], _ :: _ => -1
  | _ :: _, [] => 1
  | x :: a, y :: b => if o x y ≠ 0 then o x y else cmpLst o a b
/-- a row of numbers that is made out of its elements -/
theorem C_lit (k : IntKind) (w : World) (xs : List Int) (t : TypeId) (hn : xs.length ≤ 9223372036854775807) : Kd.C (Kd.int k) (w.alloc (.cells (xs.map (Value.int k)).toArray t)) (some ⟨w.heap.size, 0, none⟩) xs.length xs := by
  refine ⟨rfl, hn, fun _ => ⟨_, rfl, fun j p hj => ⟨[.int k p], rfl, rfl, fun i u hu => ?_⟩⟩⟩
  match i with
  | 0 =>
    simp at hu
    subst hu
    rw [WideShapes.add_plain, World.cell?_alloc_mark]
    simp [Kd.int, Kd.scalar, hj]
  | i + 1 => simp at hu
/-- a row of flat elements of one's own, out of its cells -/
theorem flat_own {α : Type} {d : Kd α} {e n : Nat} {w w1 : World} {base : Nat} {v : Value} {xs : List α} {inner : List Value} (hf : ∀ {w : World} {x : α} {c : List Value}, d.K w x c → ∀ w1 b ok, d.M w1 b ok x c)
    (h : w1.ownsRow base e d.sz v n inner) (hn : n = xs.length) (hr : Reps (d.K w) d.sz xs inner) : d.R e w1 base (fun _ => True) v xs := by
  subst hn
  exact ⟨fun _ _ => trivial, inner, h, hr.1, fun j p hj => hf (hr.2 j p hj) _ _ _⟩
theorem Reps.one_ {α : Type} {d : Kd α} {w : World} {xs : List α} {inner : List Value} (hr : Reps (d.K w) d.sz xs inner) (hs : 0 < d.sz) : ∀ u ∈ inner, u.oneCell' = true := by
  intro u hu
  obtain ⟨i, hi⟩ := List.getElem?_of_mem hu
  have hlt := (List.getElem?_eq_some_iff.1 hi).1
  rw [hr.1] at hlt
  have hj : i / d.sz < xs.length := by rw [Nat.div_lt_iff_lt_mul hs]; exact hlt
  have hk := hr.2 (i / d.sz) _ (List.getElem?_eq_getElem hj)
  refine d.K_one hk u ?_
  refine List.mem_of_getElem? (i := i % d.sz) ?_
  rw [List.getElem?_take_of_lt (Nat.mod_lt _ hs), List.getElem?_drop, Nat.mul_comm, Nat.div_add_mod]
  exact hi
end Go.Proofs.Ytnihacajjpcjeaa
