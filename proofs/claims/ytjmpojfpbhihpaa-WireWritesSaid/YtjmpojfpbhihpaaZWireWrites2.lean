/- Part of the proof of RowWireWrites: what it asks of functions, words and plain facts (put together by this session's own program, wip/tools/shake.py). -/
import Derived.Test.YtjmpojfpbhihpaaZWireWrites0
import Derived.Test.YtjmpojfpbhihpaaZWireWrites1
import Derived.Test.YtjmpojfpbhihpaaProg
import Derived.WalkKit
import Derived.ProofKit
import Derived.WalkMore
import Derived.Deep.LoopGhost
import Derived.Deep.QuietTactic
import Derived.BigQuiet
import Derived.OneCell
import Derived.IntWalk
import Derived.Laws.AppendOwn
import Derived.Laws.OwnMore
import Derived.RegionTactic
import Derived.Deep.RegionLaw
import Derived.Deep.RegionHeld3
import Derived.Deep.AppendLies
import Derived.OwnWalk
import Derived.Below
import Derived.WideShapes
import Derived.WalkSpells
import Derived.Shelf.Small.Wraps
import Derived.Shelf.Strings.Search1
import Derived.Shelf.Bits.Mul64
import Derived.Shelf.Slices.Turned
import Derived.Shelf.Bytes.SlIndexSmall
import Derived.Ground.SlbNamesProg
import Derived.Shelf.Bytes.SlCountOne
import Derived.Shelf.Bytes.SlIndexAt
import Derived.Shelf.Bytes.SlSearch0
import Derived.Shelf.Bytes.Small
import Derived.Shelf.Bytes.IndexByte
import Derived.Lib.MakeNoZero
import Derived.Laws.CopyOwn
import Derived.ArgAppend
import Derived.Laws.AppendOwnNone
section
set_option linter.unusedVariables false
set_option linter.unusedSimpArgs false
namespace Go.Proofs.Ytjmpojfpbhihpaa
open Go.RowKit

theorem mkHid {p : Prop} (h : p) : Hid p := h
theorem app_list (l m : List UInt8) : (⟨l.toArray⟩ : ByteArray) ++ ⟨m.toArray⟩ = ⟨(l ++ m).toArray⟩ := by
  apply ByteArray.ext; simp [ByteArray.data_append]
end Go.Proofs.Ytjmpojfpbhihpaa

end
section
set_option linter.unusedVariables false
set_option linter.unusedSimpArgs false
namespace Go.Proofs.Ytjmpojfpbhihpaa
open Go.RowKit Go.Proofs.YtjmpojfpbhihpaaW.PrintWords Go.Proofs.YtjmpojfpbhihpaaW.PrintLast Go.Proofs.YtjmpojfpbhihpaaW.PrintMore

/-- a row that is read: its block, and its cells -/
theorem C_at {α : Type} {d : Kd α} {w : World} {A : Option Addr} {n : Nat} {xs : List α} (h : d.C w A n xs) (hs : 0 < d.sz) (hn : 0 < n) :
    ∃ b o, A = some ⟨b, o, none⟩ ∧ b < w.heap.size ∧ ∀ j x, xs[j]? = some x → ∃ c, c.length = d.sz ∧ d.K w x c ∧ ∀ i u, c[i]? = some u → w.cell? ⟨b, o + j * d.sz + i, none⟩ = some u := by
  obtain ⟨h1, h2, h3⟩ := h
  obtain ⟨⟨b, o, s⟩, rfl, hc⟩ := h3 hn
  obtain ⟨x, hx⟩ : ∃ x, xs[0]? = some x := ⟨_, List.getElem?_eq_getElem (h := by omega)⟩
  obtain ⟨c, c1, c2, c3⟩ := hc 0 x hx
  have k := c3 0 _ (List.getElem?_eq_getElem (h := by omega))
  have e : (⟨b, o, s⟩ : Addr).add (0 * d.sz + 0) = ⟨b, o, s⟩ := by rw [Nat.zero_mul]; simp [Addr.add]
  rw [e] at k
  have hsp : s = none := World.cell?_spot k
  subst hsp
  refine ⟨b, o, rfl, World.block_lt_of_cell? _ _ k, fun j x hj => ?_⟩
  obtain ⟨c, c1, c2, c3⟩ := hc j x hj
  refine ⟨c, c1, c2, fun i u hu => ?_⟩
  have := c3 i u hu
  rw [WideShapes.add_plain, ← Nat.add_assoc] at this
  exact this
theorem ext_take (s : ByteArray) (n : Nat) : s.extract 0 n = ⟨(s.data.toList.take n).toArray⟩ := by
  apply ByteArray.ext
  apply Array.ext'
  rw [ByteArray.data_extract, Array.toList_extract]
  simp [List.extract_eq_take_drop]
/-- the first that meets a test; -1: none -/
def idxB {α : Type} (p : α → Bool) (l : List α) : Int := match l.findIdx? p with | some i => (i : Int) | none => -1
theorem idxB_at {α : Type} (p : α → Bool) (l : List α) (k : Nat) (x : α) (hx : l[k]? = some x) (hp : p x = true) (h : ∀ (i : Nat) (y : α), i < k → l[i]? = some y → p y = false) : idxB p l = (k : Int) := by
  unfold idxB
  obtain ⟨hk, e⟩ := List.getElem?_eq_some_iff.1 hx
  have : l.findIdx? p = some k := by
    rw [List.findIdx?_eq_some_iff_getElem]
    exact ⟨hk, by rw [e]; exact hp, fun j hj => by rw [h j _ hj (List.getElem?_eq_getElem (h := by omega))]; simp⟩
  rw [this]
theorem idxB_none {α : Type} (p : α → Bool) (l : List α) (h : ∀ (i : Nat) (y : α), l[i]? = some y → p y = false) : idxB p l = -1 := by
  unfold idxB
  have : l.findIdx? p = none := by
    rw [List.findIdx?_eq_none_iff]
    intro x hx
    obtain ⟨i, hi⟩ := List.getElem?_of_mem hx
    exact h i x hi
  rw [this]
theorem idxB_any {α : Type} (p : α → Bool) (l : List α) : decide (0 ≤ idxB p l) = l.any p := by
  unfold idxB
  cases h : l.findIdx? p with
  | none =>
    rw [List.findIdx?_eq_none_iff] at h
    symm
    show l.any p = decide ((0 : Int) ≤ -1)
    rw [show decide ((0 : Int) ≤ -1) = false from rfl, List.any_eq_false]
    intro x hx
    rw [h x hx]; simp
  | some i =>
    obtain ⟨hi, hp, _⟩ := List.findIdx?_eq_some_iff_getElem.1 h
    symm
    show l.any p = decide ((0 : Int) ≤ (i : Int))
    rw [decide_eq_true (by omega), List.any_eq_true]
    exact ⟨_, List.getElem_mem hi, hp⟩
/-- how two lists stand to one another -/
def cmpLst {α : Type} (o : α → α → Int) : List α → List α → Int
  | [], [] => 0
  | [], _ :: _ => -1
  | _ :: _, [] => 1
  | x :: a, y :: b => if o x y ≠ 0 then o x y else cmpLst o a b
/-- a row of numbers that is made out of its elements -/
theorem C_lit (k : IntKind) (w : World) (xs : List Int) (t : TypeId) (hn : xs.length ≤ 9223372036854775807) : Kd.C (Kd.int k) (w.alloc (.cells (xs.map (Value.int k)).toArray t)) (some ⟨w.heap.size, 0, none⟩) xs.length xs := by
  refine ⟨rfl, hn, fun _ => ⟨_, rfl, fun j p hj => ⟨[.int k p], rfl, rfl, fun i u hu => ?_⟩⟩⟩
  match i with
  | 0 =>
    simp at hu
    subst hu
    rw [WideShapes.add_plain, World.cell?_alloc_mark]
    simp [Kd.int, Kd.scalar, hj]
  | i + 1 => simp at hu
/-- a row of flat elements of one's own, out of its cells -/
theorem flat_own {α : Type} {d : Kd α} {e n : Nat} {w w1 : World} {base : Nat} {v : Value} {xs : List α} {inner : List Value} (hf : ∀ {w : World} {x : α} {c : List Value}, d.K w x c → ∀ w1 b ok, d.M w1 b ok x c)
    (h : w1.ownsRow base e d.sz v n inner) (hn : n = xs.length) (hr : Reps (d.K w) d.sz xs inner) : d.R e w1 base (fun _ => True) v xs := by
  subst hn
  exact ⟨fun _ _ => trivial, inner, h, hr.1, fun j p hj => hf (hr.2 j p hj) _ _ _⟩
theorem Reps.one_ {α : Type} {d : Kd α} {w : World} {xs : List α} {inner : List Value} (hr : Reps (d.K w) d.sz xs inner) (hs : 0 < d.sz) : ∀ u ∈ inner, u.oneCell' = true := by
  intro u hu
  obtain ⟨i, hi⟩ := List.getElem?_of_mem hu
  have hlt := (List.getElem?_eq_some_iff.1 hi).1
  rw [hr.1] at hlt
  have hj : i / d.sz < xs.length := by rw [Nat.div_lt_iff_lt_mul hs]; exact hlt
  have hk := hr.2 (i / d.sz) _ (List.getElem?_eq_getElem hj)
  refine d.K_one hk u ?_
  refine List.mem_of_getElem? (i := i % d.sz) ?_
  rw [List.getElem?_take_of_lt (Nat.mod_lt _ hs), List.getElem?_drop, Nat.mul_comm, Nat.div_add_mod]
  exact hi
end Go.Proofs.Ytjmpojfpbhihpaa

end
section
namespace Go.Proofs.Ytjmpojfpbhihpaa.P
open Go.RowKit Go.Proofs.YtjmpojfpbhihpaaW.PrintWords Go.Proofs.YtjmpojfpbhihpaaW.PrintLast Go.Proofs.YtjmpojfpbhihpaaW.PrintMore
attribute [local go_sem] max2_int min2_int max_two min_two max_three min_three max_four min_four   -- for this text's walks alone
set_option linter.unusedVariables false
set_option linter.unusedSimpArgs false

def addr_mask.f (a0 : Int) : Option (Int) := if a0 = 0 then (some 0) else (if 0 ≤ (wrap64 (32 - a0)) then (some (shl .u32 4294967295 (wrap64 (32 - a0)))) else (none))
set_option maxHeartbeats 8000000 in
set_option maxRecDepth 100000 in
theorem addr_mask.calls (a0 : Int) (r : Int) (w : World) (h : addr_mask.f a0 = some r) :
    Calls Try.prog 53 #[.int .i64 a0] w fun e w' => e = .returned (.int .u32 r) ∧ Drawn0 w w' := by
  have H : (if a0 = 0 then (some 0) else (if 0 ≤ (wrap64 (32 - a0)) then (some (shl .u32 4294967295 (wrap64 (32 - a0)))) else (none))) = some r := h; clear h
  by_cases c2 : a0 = 0
  · rw [if_pos c2] at H
    have c2b0 : (a0 == 0) = true := beq_iff_eq.mpr c2; have c2b1 : (a0 != 0) = false := bne_eq_false_iff_eq.mpr c2; clear c2; obtain rfl := Option.some.inj H
    go_enter Try.func53, Try.ntmps53
    go_wp2
    go_ret
    exact ⟨by first | rfl | (simp; done) | (simp [*]; done), by repeat (first | exact Drawn0.refl _ | apply Drawn0.step)⟩
  · rw [if_neg c2] at H
    have c2b0 : (a0 == 0) = false := beq_eq_false_iff_ne.mpr c2; have c2b1 : (a0 != 0) = true := bne_iff_ne.mpr c2; obtain ⟨ji3, hji3⟩ : ∃ j_ : Int, (wrap64 (32 - a0)) = j_ := ⟨_, rfl⟩; (replace H : (if 0 ≤ (ji3) then (some (shl .u32 4294967295 (ji3))) else (none)) = some r := by first | (rw [hji3] at H; exact H) | (simp only [hji3] at H ⊢; exact H)); have hji3w : (IntKind.i64.wrap (32 - a0)) = ji3 := (i64_w _).trans hji3
    by_cases c4 : 0 ≤ (ji3)
    · rw [if_pos c4] at H
      have c4b0 := eq_true c4; have c4b1 : decide (0 ≤ (ji3)) = true := decide_eq_true c4; clear c4; obtain ⟨ji5, hji5⟩ : ∃ j_ : Int, (shl .u32 4294967295 (ji3)) = j_ := ⟨_, rfl⟩; (replace H : (some ji5) = some r := by first | (rw [hji5] at H; exact H) | (simp only [hji5] at H ⊢; exact H)); have hji5_ : (IntKind.u32.wrap (4294967295 * 2 ^ min (ji3).toNat 32)) = ji5 := hji5; have hji5z : (ji3) ≤ 32 → (IntKind.u32.wrap (4294967295 * 2 ^ (ji3).toNat)) = ji5 := shl_small hji5; (have hji5y : ((4294967295 * 2 ^ min (ji3).toNat 32) % 4294967296) = ji5 := by rw [← hji5_, IntKind.wrap_u32]); obtain rfl := Option.some.inj H
      go_enter Try.func53, Try.ntmps53
      go_wp2
      go_ret
      exact ⟨by first | rfl | (simp; done) | (simp only [← hji3, ← hji5] <;> (first | rfl | simp)) | (simp [*]; done), by repeat (first | exact Drawn0.refl _ | apply Drawn0.step)⟩
    · rw [if_neg c4] at H
      exact absurd H (by simp)

def addr_May.f (a0_0 : Int) (a0_1 : Int) : Option (Bool) := if a0_1 ≥ 0 then (if a0_1 ≤ 32 then ((addr_mask.f a0_1).bind fun t102 => (some ((Go.bits .andNot .u32 a0_0 t102) == 0))) else (some false)) else (some false)
set_option maxHeartbeats 8000000 in
set_option maxRecDepth 100000 in
theorem addr_May.calls (ad : Int) (ac : Int) (r : Bool) (w : World) (h : addr_May.f ad ac = some r) :
  Calls Try.prog 25 #[.agg #[.int .u32 ad, .int .i64 ac]] w fun e w' => e = .returned (.bool r) ∧ Below w.heap.size w w' := by
 have hu25 := Try.underlying25; have HB := Aside0.mk (Below.refl w.heap.size w); have H : (if ac ≥ 0 then (if ac ≤ 32 then ((addr_mask.f ac).bind fun t102 => (some ((Go.bits .andNot .u32 ad t102) == 0))) else (some false)) else (some false)) = some r := h; clear h
 by_cases c2 : ac ≥ 0
 ·rw [if_pos c2] at H
  have c2b0 : decide (0 ≤ ac) = true := decide_eq_true c2; clear c2
  by_cases c3 : ac ≤ 32
  ·rw [if_pos c3] at H
   have c3b0 : decide (ac ≤ 32) = true := decide_eq_true c3; clear c3; replace H := Option.bind_eq_some_iff.mp H; obtain ⟨t102, A40, H⟩ := H; replace H : (some ((Go.bits .andNot .u32 ad t102) == 0)) = some r := H; have A4 := Aside0.mk A40; clear A40; obtain rfl := Option.some.inj H
   go_enter Try.func25, Try.ntmps25
   go_wp2_with (first | ((with_reducible refine gate_dst (N := 1) rfl ?_); refine box_event ?hg (N := 1) ?hd (cs := #[.int .u32 ad, .int .i64 ac]) (t := 25) ?hr ?_; (case hd => rfl); (case hg => rfl); (case hr => first | (go_simp; done) | (go_simp; rfl)); intro aa hg w5 hbox hb; have n0_ := Aside0.mk (below_step (by repeat (first | (with_reducible first | exact HB.out | apply bA_ | apply bN_ | apply bD_) | exact HB.out)) hb); have n1_ := Aside0.mk (hbox); have n2_ := Aside0.mk ((by rw [hg]; exact (below_size (by repeat (first | (with_reducible first | exact HB.out | apply bA_ | apply bN_ | apply bD_) | exact HB.out))) : w.heap.size ≤ aa)); have n3_ := n2_; clear HB; have HB := n0_; have ab := n1_; have af := n2_; have ae := n3_; clear n0_ n1_ n2_ n3_; clear hb hbox hg; have hcz6_0 := blk_cell ab.out; have hfz6_0 := blk_frozen ab.out) | (go_at_call 53; (with_reducible refine (addr_mask.calls ac t102 _ A4.out).mono ?_); rintro e w' ⟨rfl, ⟨nd, rfl⟩⟩; (try first | exact ⟨rfl, _, World.drewN_drewN _ _ _⟩ | exact ⟨rfl, _, Eq.trans (World.drewN_drewN _ _ _) (congrArg (World.drewN _) (Nat.add_assoc _ _ _))⟩)))
   repeat (go_quiet (first | ((with_reducible refine gate_dst (N := 1) rfl ?_); refine box_event ?hg (N := 1) ?hd (cs := #[.int .u32 ad, .int .i64 ac]) (t := 25) ?hr ?_; (case hd => rfl); (case hg => rfl); (case hr => first | (go_simp; done) | (go_simp; rfl)); intro aa hg w5 hbox hb; have n0_ := Aside0.mk (below_step (by repeat (first | (with_reducible first | exact HB.out | apply bA_ | apply bN_ | apply bD_) | exact HB.out)) hb); have n1_ := Aside0.mk (hbox); have n2_ := Aside0.mk ((by rw [hg]; exact (below_size (by repeat (first | (with_reducible first | exact HB.out | apply bA_ | apply bN_ | apply bD_) | exact HB.out))) : w.heap.size ≤ aa)); have n3_ := n2_; clear HB; have HB := n0_; have ab := n1_; have af := n2_; have ae := n3_; clear n0_ n1_ n2_ n3_; clear hb hbox hg; have hcz6_0 := blk_cell ab.out; have hfz6_0 := blk_frozen ab.out) | (go_at_call 53; (with_reducible refine (addr_mask.calls ac t102 _ A4.out).mono ?_); rintro e w' ⟨rfl, ⟨nd, rfl⟩⟩; (try first | exact ⟨rfl, _, World.drewN_drewN _ _ _⟩ | exact ⟨rfl, _, Eq.trans (World.drewN_drewN _ _ _) (congrArg (World.drewN _) (Nat.add_assoc _ _ _))⟩))); try go_wp2_with (first | ((with_reducible refine gate_dst (N := 1) rfl ?_); refine box_event ?hg (N := 1) ?hd (cs := #[.int .u32 ad, .int .i64 ac]) (t := 25) ?hr ?_; (case hd => rfl); (case hg => rfl); (case hr => first | (go_simp; done) | (go_simp; rfl)); intro aa hg w5 hbox hb; have n0_ := Aside0.mk (below_step (by repeat (first | (with_reducible first | exact HB.out | apply bA_ | apply bN_ | apply bD_) | exact HB.out)) hb); have n1_ := Aside0.mk (hbox); have n2_ := Aside0.mk ((by rw [hg]; exact (below_size (by repeat (first | (with_reducible first | exact HB.out | apply bA_ | apply bN_ | apply bD_) | exact HB.out))) : w.heap.size ≤ aa)); have n3_ := n2_; clear HB; have HB := n0_; have ab := n1_; have af := n2_; have ae := n3_; clear n0_ n1_ n2_ n3_; clear hb hbox hg; have hcz6_0 := blk_cell ab.out; have hfz6_0 := blk_frozen ab.out) | (go_at_call 53; (with_reducible refine (addr_mask.calls ac t102 _ A4.out).mono ?_); rintro e w' ⟨rfl, ⟨nd, rfl⟩⟩; (try first | exact ⟨rfl, _, World.drewN_drewN _ _ _⟩ | exact ⟨rfl, _, Eq.trans (World.drewN_drewN _ _ _) (congrArg (World.drewN _) (Nat.add_assoc _ _ _))⟩))))
   go_ret
   exact ⟨by first | rfl | (simp [errW_none, errW_some] <;> rfl) | (simp [*, errW_none, errW_some] <;> rfl), by repeat (first | (with_reducible first | exact HB.out | apply bA_ | apply bN_ | apply bD_ | refine below_set ?_ ae.out) | exact HB.out)⟩
  ·rw [if_neg c3] at H
   have c3b0 : decide (ac ≤ 32) = false := decide_eq_false c3; clear c3; obtain rfl := Option.some.inj H
   go_enter Try.func25, Try.ntmps25
   go_wp2_with (first | ((with_reducible refine gate_dst (N := 1) rfl ?_); refine box_event ?hg (N := 1) ?hd (cs := #[.int .u32 ad, .int .i64 ac]) (t := 25) ?hr ?_; (case hd => rfl); (case hg => rfl); (case hr => first | (go_simp; done) | (go_simp; rfl)); intro aa hg w7 hbox hb; have n0_ := Aside0.mk (below_step (by repeat (first | (with_reducible first | exact HB.out | apply bA_ | apply bN_ | apply bD_) | exact HB.out)) hb); have n1_ := Aside0.mk (hbox); have n2_ := Aside0.mk ((by rw [hg]; exact (below_size (by repeat (first | (with_reducible first | exact HB.out | apply bA_ | apply bN_ | apply bD_) | exact HB.out))) : w.heap.size ≤ aa)); have n3_ := n2_; clear HB; have HB := n0_; have ab := n1_; have af := n2_; have ae := n3_; clear n0_ n1_ n2_ n3_; clear hb hbox hg; have hcz8_0 := blk_cell ab.out; have hfz8_0 := blk_frozen ab.out))
   repeat (go_quiet (first | ((with_reducible refine gate_dst (N := 1) rfl ?_); refine box_event ?hg (N := 1) ?hd (cs := #[.int .u32 ad, .int .i64 ac]) (t := 25) ?hr ?_; (case hd => rfl); (case hg => rfl); (case hr => first | (go_simp; done) | (go_simp; rfl)); intro aa hg w7 hbox hb; have n0_ := Aside0.mk (below_step (by repeat (first | (with_reducible first | exact HB.out | apply bA_ | apply bN_ | apply bD_) | exact HB.out)) hb); have n1_ := Aside0.mk (hbox); have n2_ := Aside0.mk ((by rw [hg]; exact (below_size (by repeat (first | (with_reducible first | exact HB.out | apply bA_ | apply bN_ | apply bD_) | exact HB.out))) : w.heap.size ≤ aa)); have n3_ := n2_; clear HB; have HB := n0_; have ab := n1_; have af := n2_; have ae := n3_; clear n0_ n1_ n2_ n3_; clear hb hbox hg; have hcz8_0 := blk_cell ab.out; have hfz8_0 := blk_frozen ab.out)); try go_wp2_with (first | ((with_reducible refine gate_dst (N := 1) rfl ?_); refine box_event ?hg (N := 1) ?hd (cs := #[.int .u32 ad, .int .i64 ac]) (t := 25) ?hr ?_; (case hd => rfl); (case hg => rfl); (case hr => first | (go_simp; done) | (go_simp; rfl)); intro aa hg w7 hbox hb; have n0_ := Aside0.mk (below_step (by repeat (first | (with_reducible first | exact HB.out | apply bA_ | apply bN_ | apply bD_) | exact HB.out)) hb); have n1_ := Aside0.mk (hbox); have n2_ := Aside0.mk ((by rw [hg]; exact (below_size (by repeat (first | (with_reducible first | exact HB.out | apply bA_ | apply bN_ | apply bD_) | exact HB.out))) : w.heap.size ≤ aa)); have n3_ := n2_; clear HB; have HB := n0_; have ab := n1_; have af := n2_; have ae := n3_; clear n0_ n1_ n2_ n3_; clear hb hbox hg; have hcz8_0 := blk_cell ab.out; have hfz8_0 := blk_frozen ab.out)))
   go_ret
   exact ⟨by first | rfl | (simp [errW_none, errW_some] <;> rfl) | (simp [*, errW_none, errW_some] <;> rfl), by repeat (first | (with_reducible first | exact HB.out | apply bA_ | apply bN_ | apply bD_ | refine below_set ?_ ae.out) | exact HB.out)⟩
 ·rw [if_neg c2] at H
  have c2b0 : decide (0 ≤ ac) = false := decide_eq_false c2; clear c2; obtain rfl := Option.some.inj H
  go_enter Try.func25, Try.ntmps25
  go_wp2_with (first | ((with_reducible refine gate_dst (N := 1) rfl ?_); refine box_event ?hg (N := 1) ?hd (cs := #[.int .u32 ad, .int .i64 ac]) (t := 25) ?hr ?_; (case hd => rfl); (case hg => rfl); (case hr => first | (go_simp; done) | (go_simp; rfl)); intro aa hg w9 hbox hb; have n0_ := Aside0.mk (below_step (by repeat (first | (with_reducible first | exact HB.out | apply bA_ | apply bN_ | apply bD_) | exact HB.out)) hb); have n1_ := Aside0.mk (hbox); have n2_ := Aside0.mk ((by rw [hg]; exact (below_size (by repeat (first | (with_reducible first | exact HB.out | apply bA_ | apply bN_ | apply bD_) | exact HB.out))) : w.heap.size ≤ aa)); have n3_ := n2_; clear HB; have HB := n0_; have ab := n1_; have af := n2_; have ae := n3_; clear n0_ n1_ n2_ n3_; clear hb hbox hg; have hcz10_0 := blk_cell ab.out; have hfz10_0 := blk_frozen ab.out))
  repeat (go_quiet (first | ((with_reducible refine gate_dst (N := 1) rfl ?_); refine box_event ?hg (N := 1) ?hd (cs := #[.int .u32 ad, .int .i64 ac]) (t := 25) ?hr ?_; (case hd => rfl); (case hg => rfl); (case hr => first | (go_simp; done) | (go_simp; rfl)); intro aa hg w9 hbox hb; have n0_ := Aside0.mk (below_step (by repeat (first | (with_reducible first | exact HB.out | apply bA_ | apply bN_ | apply bD_) | exact HB.out)) hb); have n1_ := Aside0.mk (hbox); have n2_ := Aside0.mk ((by rw [hg]; exact (below_size (by repeat (first | (with_reducible first | exact HB.out | apply bA_ | apply bN_ | apply bD_) | exact HB.out))) : w.heap.size ≤ aa)); have n3_ := n2_; clear HB; have HB := n0_; have ab := n1_; have af := n2_; have ae := n3_; clear n0_ n1_ n2_ n3_; clear hb hbox hg; have hcz10_0 := blk_cell ab.out; have hfz10_0 := blk_frozen ab.out)); try go_wp2_with (first | ((with_reducible refine gate_dst (N := 1) rfl ?_); refine box_event ?hg (N := 1) ?hd (cs := #[.int .u32 ad, .int .i64 ac]) (t := 25) ?hr ?_; (case hd => rfl); (case hg => rfl); (case hr => first | (go_simp; done) | (go_simp; rfl)); intro aa hg w9 hbox hb; have n0_ := Aside0.mk (below_step (by repeat (first | (with_reducible first | exact HB.out | apply bA_ | apply bN_ | apply bD_) | exact HB.out)) hb); have n1_ := Aside0.mk (hbox); have n2_ := Aside0.mk ((by rw [hg]; exact (below_size (by repeat (first | (with_reducible first | exact HB.out | apply bA_ | apply bN_ | apply bD_) | exact HB.out))) : w.heap.size ≤ aa)); have n3_ := n2_; clear HB; have HB := n0_; have ab := n1_; have af := n2_; have ae := n3_; clear n0_ n1_ n2_ n3_; clear hb hbox hg; have hcz10_0 := blk_cell ab.out; have hfz10_0 := blk_frozen ab.out)))
  go_ret
  exact ⟨by first | rfl | (simp [errW_none, errW_some] <;> rfl) | (simp [*, errW_none, errW_some] <;> rfl), by repeat (first | (with_reducible first | exact HB.out | apply bA_ | apply bN_ | apply bD_ | refine below_set ?_ ae.out) | exact HB.out)⟩

def bytes_Clone.f (l0 : List Int) : Option (List Int) := if l0.length * 1 ≤ 140737488355328 then some l0 else none
theorem bytes_Clone.info : (Try.prog.info? 5).map (fun i => (i.zero, i.size, i.bytes)) = some (some (.int .u8 0), 1, 1) := by kernel_rfl
set_option maxHeartbeats 1000000 in
set_option maxRecDepth 100000 in
theorem bytes_Clone.calls (A0 : Option Addr) (c0 : Nat) (l0 : List Int) (r : List Int) (w : World) (hr0 : Kd.C (Kd.int .u8) w A0 l0.length l0) (hc0 : l0.length ≤ c0) (h : bytes_Clone.f l0 = some r) :
    Calls Try.prog 27 #[.slice A0 l0.length c0] w fun e w' => ∃ v0_ : Value, e = .returned v0_ ∧ Kd.R (Kd.int .u8) 5 w' w.heap.size (fun _ => True) v0_ r ∧ Below w.heap.size w w' := by
  unfold bytes_Clone.f at h
  split at h
  · rename_i hb
    obtain rfl := Option.some.inj h; have HR := mkHid hr0; obtain ⟨i0, hi, hz0, hz1, hz2⟩ := info_parts bytes_Clone.info
    cases A0 with
    | none =>
      have h0 : l0.length = 0 := by
        rcases Nat.eq_zero_or_pos l0.length with h0 | h0
        · exact h0
        · obtain ⟨ad, e, _⟩ := hr0.2.2 h0
          cases e
      have e0 : l0 = [] := List.length_eq_zero_iff.1 h0; subst e0; have hq := fun W => Lib.run_eql_slice_nil (P := Try.prog) W 22 5 none 0 c0 0 0 Try.underlying22; clear h hr0 hi hz0 hz1 hz2 h0
      go_enter Try.func27, Try.ntmps27
      go_wp2_with fail
      go_ret
      exact ⟨_, rfl, Kd.R_nil _ _ _ _ _, Below.refl _ _⟩
    | some ad =>
      obtain ⟨inner, hrep, hcell⟩ := ReadsRow.inner_ hr0; have hlen := mkHid hrep.1; (have hone := Reps.one_ hrep (by decide)); have HRep := mkHid hrep; have HCell := mkHid hcell; have hm : l0.length ≤ 9223372036854775807 := Kd.C_max hr0; (have hnew : ∀ W : World, (W.alloc (.cells #[] 5)).ownsRow W.heap.size 5 1 (.slice (some ⟨W.heap.size, 0, none⟩) 0 0) 0 [] := fun W => ⟨by simp, .inr ⟨W.heap.size, 0, #[], rfl, Nat.le_refl _, heap_alloc_new W _, Nat.le_refl _, by unfold maxLen; omega, by simp, by simp⟩⟩); have HNew := mkHid hnew; have HOne := mkHid hone; have hq := fun W => Lib.run_eql_slice_nil (P := Try.prog) W 22 5 (some ad) l0.length c0 0 0 Try.underlying22; clear h hr0 hrep hcell hone hnew
      go_enter Try.func27, Try.ntmps27
      go_wp2_with (at_builtin; refine wpList_append_own _ rfl _ _ 22 rfl w.heap.size 5 i0 _ 1 1 Try.underlying22 hi hz0 hz1 hz2 rfl (by decide) _ _ _ rfl (HNew.out w) ad l0.length c0 inner rfl hlen.out (fun j u hu => by rw [World.cell?_alloc_lt _ _ _ (World.block_lt_of_cell? _ _ (HCell.out j u hu))]; exact HCell.out j u hu) HOne.out (by unfold maxLen; omega) (by omega) (by simp) ?_; intro v' w1 hown1 hgrow _)
      rw [Nat.zero_add, List.nil_append] at hown1; have HO := mkHid hown1; have HG := mkHid hgrow; clear hown1 hgrow
      go_wp2_with fail
      go_ret
      refine ⟨_, rfl, flat_own (fun h _ _ _ => h) HO.out rfl HRep.out, ?_⟩; (exact (((Below.refl _ _).alloc (Nat.le_refl _) _).grown HG.out (by simp) (fun k hk => by cases hk; exact Nat.le_refl _)))
  · exact absurd h (by simp)

def wire_number.l0 : Nat → List Int → Int → Int → Option (List Int)
  | 0, _, _, _ => none
  | k + 1, x0, x1, x2 => if x2 ≥ 0 then (if 0 ≤ (wrap64 (8 * x2)) then (if x0.length < 140737488355328 then (wire_number.l0 k (x0 ++ [(shr .i64 x1 (wrap64 (8 * x2))) % 256]) x1 (wrap64 (x2 - 1))) else (none)) else (none)) else (some x0)
def wire_number.f (k : Nat) (l0 : List Int) (a1 : Int) (a2 : Int) : Option (List Int) := wire_number.l0 k l0 a1 (wrap64 (a2 - 1))
theorem wire_number.mono_l : ∀ k, (∀ y0 y1 y2, LeO (wire_number.l0 k y0 y1 y2) (wire_number.l0 (k + 1) y0 y1 y2))
  | 0 => fun _ _ _ r h => by simp [wire_number.l0] at h
  | k + 1 => by
    have ih0 := wire_number.mono_l k
    · intro y0 y1 y2
      unfold wire_number.l0
      repeat' first
      | (with_reducible exact ih0 _ _ _)
      | (with_reducible exact LeO.refl _)
      | (with_reducible exact LeO.none _)
      | (with_reducible refine LeO.ite ?_ ?_)
      | (with_reducible refine LeO.bind ?_ (fun _ => ?_))
      | exact ih0 _ _ _
      | exact LeO.none _
      | refine LeO.ite ?_ ?_
      | refine LeO.bind ?_ (fun _ => ?_)
theorem wire_number.mono : ∀ a0 a1 a2 k, LeO (wire_number.f k a0 a1 a2) (wire_number.f (k + 1) a0 a1 a2) := by
  intro a0 a1 a2 k; have ih0 := wire_number.mono_l k
  unfold wire_number.f
  repeat' first
      | (with_reducible exact ih0 _ _ _)
      | (with_reducible exact LeO.refl _)
      | (with_reducible exact LeO.none _)
      | (with_reducible refine LeO.ite ?_ ?_)
      | (with_reducible refine LeO.bind ?_ (fun _ => ?_))
      | exact ih0 _ _ _
      | exact LeO.none _
      | refine LeO.ite ?_ ?_
      | refine LeO.bind ?_ (fun _ => ?_)
set_option maxHeartbeats 8000000 in
set_option maxRecDepth 100000 in
theorem wire_number.calls (k : Nat) (P0_ : Nat → Prop) (u9000_ : Value) (l0 : List Int) (a1 : Int) (a2 : Int) (r : List Int) (w0 w : World) (hB : Below w0.heap.size w0 w) (ho0 : Kd.R (Kd.int .u8) 5 w w0.heap.size P0_ u9000_ l0) (h : wire_number.f k l0 a1 a2 = some r) :
    Calls Try.prog 28 #[u9000_, .int .i64 a1, .int .i64 a2] w fun e w' => ∃ v0_ : Value, e = .returned (v0_) ∧ Kd.R (Kd.int .u8) 5 w' w0.heap.size (fun k_ => (P0_ k_ ∨ w.heap.size ≤ k_)) v0_ r ∧ Below w0.heap.size w0 w' ∧ Kept w w' (fun k_ => P0_ k_) := by
  have HO0 := Aside0.mk (show Kd.R (Kd.int .u8) 5 w w0.heap.size (fun k_ => (P0_ k_ ∨ w.heap.size ≤ k_)) u9000_ l0 from Kd.R_mono ho0 (fun k_ hk => (.inl hk))); have HK := Aside0.mk (Kept.refl w (fun k_ => P0_ k_)); have HW0 := Aside0.mk hB.size; have HB := Aside0.mk hB; clear hB; have H : (wire_number.l0 k l0 a1 (wrap64 (a2 - 1))) = some r := h; clear h; have H' := Aside0.mk H; clear H
  go_enter Try.func28, Try.ntmps28
  go_wp2
  go_loopg [0, 2] k (fun kq v0 v2 w' => ∃ (x0_1 : List Int) (x2_1 : Int), v2 = .int .i64 x2_1 ∧ Aside0 (wire_number.l0 kq x0_1 a1 x2_1 = some r) ∧ Aside0 (kq ≤ k) ∧ Aside0 (Kd.R (Kd.int .u8) 5 w' w0.heap.size (fun k_ => (P0_ k_ ∨ w.heap.size ≤ k_)) v0 x0_1) ∧ Aside0 (Kept w w' (fun k_ => P0_ k_)) ∧ Aside0 (Below w0.heap.size w0 w'))
  case atStart => exact ⟨(l0), (wrap64 (a2 - 1)), (by first | rfl | (simp; done) | (simp [*]; done)), H', ⟨Nat.le_refl _⟩, ⟨by (with_reducible repeat (first | apply rA_ | apply rN_ | apply rD_)); exact HO0.out⟩, ⟨by repeat (first | (with_reducible first | exact HK.out | apply Kept.alloc | apply Kept.drewN | apply Kept.drew) | exact HK.out)⟩, ⟨by repeat (first | (with_reducible first | exact HB.out | apply bA_ | apply bN_ | apply bD_) | exact HB.out)⟩⟩
  case round =>
    clear H'; (try clear c2); (try clear p2); obtain ⟨x0_1, x2_1, rfl, HA, HK1, HO_0, HK, HB⟩ := hrel
    cases gk with
    | zero => exact absurd HA.out (by simp [wire_number.l0])
    | succ k1 =>
      have H := HA.out; clear HA; simp only [wire_number.l0] at H
      by_cases c4 : x2_1 ≥ 0
      · rw [if_pos c4] at H
        have c4b0 : decide (0 ≤ x2_1) = true := decide_eq_true c4; clear c4; obtain ⟨ji5, hji5⟩ : ∃ j_ : Int, (wrap64 (8 * x2_1)) = j_ := ⟨_, rfl⟩; (replace H : (if 0 ≤ (ji5) then (if x0_1.length < 140737488355328 then (wire_number.l0 k1 (x0_1 ++ [(shr .i64 a1 (ji5)) % 256]) a1 (wrap64 (x2_1 - 1))) else (none)) else (none)) = some r := by first | (rw [hji5] at H; exact H) | (simp only [hji5] at H ⊢; exact H)); have hji5w : (IntKind.i64.wrap (8 * x2_1)) = ji5 := (i64_w _).trans hji5
        by_cases c6 : 0 ≤ (ji5)
        · rw [if_pos c6] at H
          have c6b0 := eq_true c6; have c6b1 : decide (0 ≤ (ji5)) = true := decide_eq_true c6; clear c6; obtain ⟨ji7, hji7⟩ : ∃ j_ : Int, (shr .i64 a1 (ji5)) = j_ := ⟨_, rfl⟩; (replace H : (if x0_1.length < 140737488355328 then (wire_number.l0 k1 (x0_1 ++ [(ji7) % 256]) a1 (wrap64 (x2_1 - 1))) else (none)) = some r := by first | (rw [hji7] at H; exact H) | (simp only [hji7] at H ⊢; exact H)); have hji7_ : (a1 / 2 ^ min (ji5).toNat 64) = ji7 := hji7; have hji7z : (ji5) ≤ 64 → (a1 / 2 ^ (ji5).toNat) = ji7 := shr_small hji7
          by_cases c8 : x0_1.length < 140737488355328
          · rw [if_pos c8] at H
            have LMc8 := Aside0.mk c8; clear c8; obtain ⟨y103, hy103⟩ : ∃ y_ : List Int, y_ = (x0_1 ++ [(ji7) % 256]) := ⟨_, rfl⟩; (replace H : (wire_number.l0 k1 y103 a1 (wrap64 (x2_1 - 1))) = some r := by first | (rw [hy103]; with_reducible exact H) | (have H2_ := (Option.bind_some _ _).symm.trans H; rw [hy103]; with_reducible exact H2_) | (have H2_ := (Option.bind_some _ _).symm.trans H; with_reducible exact H2_) | with_reducible exact H | (rw [hy103]; exact H) | exact H); have Ny103 := Aside0.mk hy103; clear hy103; have H' := Aside0.mk H; clear H
            go_wp2_with (first | ((with_reducible refine gate_builtin (b := .append) (xs := #[.tmp 13, .tmp 19]) rfl ?_); at_builtin; refine Kd.R_append (Kd.int .u8) (w0 := w0) w0.heap.size rfl (.tmp 13) (.tmp 19) 22 5 (.int .u8 0) 1 rfl Try.underlying22 info5 rfl (by decide) (by omega) u0 x0_1 ((ji7) % 256) [.int .u8 ((ji7) % 256)] (fun k_ => (P0_ k_ ∨ w.heap.size ≤ k_)) (fun _ => False) rfl rfl ?aP (fun _ hk => hk.elim) ?aF ?aO ?aB ?aS ?aL ?_; (case aP => exact rfl); (case aB => exact (by repeat (first | (with_reducible first | exact HB.out | apply bA_ | apply bN_ | apply bD_) | exact HB.out))); (case aF => exact (fun k_ hk => (.inr (Nat.le_trans (by first | exact HK.out.1 | exact (show Kept w _ (fun k_ => P0_ k_) from by repeat (first | (with_reducible first | exact HK.out | apply Kept.alloc | apply Kept.drewN | apply Kept.drew) | exact HK.out)).1) hk)))); (case aO => exact (by (with_reducible repeat (first | apply rA_ | apply rN_ | apply rD_)); exact HO_0.out)); (case aS => exact (below_size (by repeat (first | (with_reducible first | exact HB.out | apply bA_ | apply bN_ | apply bD_) | exact HB.out)))); (case aL => have := LMc8.out; omega); intro v104 w9 ho hb hg hat; rw [← Ny103.out] at ho; have n0_ := Aside0.mk (hb); have n1_ := Aside0.mk (Kept.of_grown (S := (fun k_ => P0_ k_)) hg (by repeat (first | (with_reducible first | exact HK.out | apply Kept.alloc | apply Kept.drewN | apply Kept.drew) | exact HK.out)) (fun k_ e_ => (HO_0.out.1 k_ e_))); have n2_ := Aside0.mk (ho); clear HB; clear HK; clear HO_0; have HB := n0_; have HK := n1_; have HO105 := n2_; clear n0_ n1_ n2_; clear ho hb hg hat))
            go_roundg k1
            case measure => have := HK1.out; omega
            case rel => exact ⟨(y103), (wrap64 (x2_1 - 1)), (by first | rfl | (simp; done) | (simp [*]; done)), H', ⟨by have := HK1.out; omega⟩, ⟨by (with_reducible repeat (first | apply rA_ | apply rN_ | apply rD_)); exact HO105.out⟩, ⟨by repeat (first | (with_reducible first | exact HK.out | apply Kept.alloc | apply Kept.drewN | apply Kept.drew) | exact HK.out)⟩, ⟨by repeat (first | (with_reducible first | exact HB.out | apply bA_ | apply bN_ | apply bD_) | exact HB.out)⟩⟩
          · rw [if_neg c8] at H
            exact absurd H (by simp)
        · rw [if_neg c6] at H
          exact absurd H (by simp)
      · rw [if_neg c4] at H
        have c4b0 : decide (0 ≤ x2_1) = false := decide_eq_false c4; clear c4; obtain rfl := Option.some.inj H; go_wp2
        go_ret
        exact ⟨_, by first | rfl | (simp [errW_none, errW_some] <;> rfl) | (simp [*, errW_none, errW_some] <;> rfl), by (with_reducible repeat (first | apply rA_ | apply rN_ | apply rD_)); exact HO_0.out, by repeat (first | (with_reducible first | exact HB.out | apply bA_ | apply bN_ | apply bD_) | exact HB.out), by repeat (first | (with_reducible first | exact HK.out | apply Kept.alloc | apply Kept.drewN | apply Kept.drew) | exact HK.out)⟩

def wire_Prefix.f (k : Nat) (l0 : List Int) (a1_0 : Int) (a1_1 : Int) : Option (List Int) := (bytes_Clone.f l0).bind fun t107 => ((addr_May.f a1_0 a1_1).bind fun t110 => (if t110 = true then (if t107.length < 140737488355328 then ((some (t107 ++ [(a1_1) % 256] : List Int)).bind fun y111 => ((wire_number.f k ([] : List Int) (wrap64 (a1_0)) 4).bind fun t114 => (if 0 ≤ (wrap64 (Int.tdiv (wrap64 (a1_1 + 7)) 8)) then (if (wrap64 (Int.tdiv (wrap64 (a1_1 + 7)) 8)) ≤ (t114.length : Int) then ((some (t114.take ((wrap64 (Int.tdiv (wrap64 (a1_1 + 7)) 8)) : Int).toNat : List Int)).bind fun y117 => (if y111.length + y117.length < 140737488355328 then (some (y111 ++ y117)) else (none))) else (none)) else (none)))) else (none)) else (some t107)))
theorem wire_Prefix.mono : ∀ a0 a1 a2 k, LeO (wire_Prefix.f k a0 a1 a2) (wire_Prefix.f (k + 1) a0 a1 a2) := by
  intro a0 a1 a2 k
  unfold wire_Prefix.f
  repeat' first
      | (with_reducible exact wire_number.mono _ _ _ _)
      | (with_reducible exact LeO.refl _)
      | (with_reducible exact LeO.none _)
      | (with_reducible refine LeO.ite ?_ ?_)
      | (with_reducible refine LeO.bind ?_ (fun _ => ?_))
      | exact wire_number.mono _ _ _ _
      | exact LeO.none _
      | refine LeO.ite ?_ ?_
      | refine LeO.bind ?_ (fun _ => ?_)
def wire_Prefix.T5 : Bool × List (List Nat × List Nat) := (true, [([], []), ([], []), ([1], [1]), ([2], [2]), ([3], [3]), ([], []), ([5], [5]), ([6], [6]), ([7], [7]), ([4, 8], [4, 8]), ([0, 9, 4], [0, 9]), ([10, 10, 0, 1, 2, 3, 4, 5, 6, 7, 8, 9, 10], [10])])
def wire_Prefix.B5 : List Nat := [0, 0, 2, 6, 14, 0, 32, 96, 224, 510, 1023, 2047]
theorem wire_Prefix.tab5 : rtab .any (opsOf Try.f12 5) = wire_Prefix.T5 := by kernel_rfl
theorem wire_Prefix.bits5 : waitsOk wire_Prefix.T5.2 wire_Prefix.B5 = true := by kernel_rfl
theorem k9926.b2e {W : World} {g : Nat} {v0 v1 : Value} {t : TypeId} (h : W.heap[g]? = some (.cells #[v0, v1] t (0, 0))) : W.cell? ⟨g, 0, none⟩ = some v0 ∧ W.cell? ⟨g, 1, none⟩ = some v1 :=
  ⟨(blk_cell h 0).trans rfl, (blk_cell h 1).trans rfl⟩
@[reducible] def k9926.S0 (g0 : Nat) (v0 v1 : Value) (w' : World) : Prop := w'.cell? ⟨g0, 0, none⟩ = some v0 ∧ w'.cell? ⟨g0, 1, none⟩ = some v1
set_option maxHeartbeats 8000000 in
set_option maxRecDepth 100000 in
theorem wire_Prefix.calls (k : Nat) (A0 : Option Addr) (c0 : Nat) (l0 : List Int) (ae : Int) (ac : Int) (r : List Int) (w : World) (hr0 : Kd.C (Kd.int .u8) w A0 l0.length l0) (hc0 : l0.length ≤ c0) (h : wire_Prefix.f k l0 ae ac = some r) :
  Calls Try.prog 12 #[.slice A0 l0.length c0, .agg #[.int .u32 ae, .int .i64 ac]] w fun e w' => ∃ v0_ : Value, e = .returned (v0_) ∧ Kd.R (Kd.int .u8) 5 w' w.heap.size (fun _ => True) v0_ r ∧ Below w.heap.size w w' := by
 have hu25 := Try.underlying25; have HR0 := Aside0.mk hr0; have HC0 := Aside0.mk hc0; clear hr0 hc0; have HB := Aside0.mk (Below.refl w.heap.size w); have H := h
 unfold wire_Prefix.f at H
 clear h; replace H := Option.bind_eq_some_iff.mp H; obtain ⟨t107, A30, H⟩ := H; (try dsimp only at H); have A3 := Aside0.mk A30; clear A30; replace H := Option.bind_eq_some_iff.mp H; obtain ⟨t110, A40, H⟩ := H; (try dsimp only at H); have A4 := Aside0.mk A40; clear A40
 by_cases c5 : t110 = true
 ·subst c5
  have H1 := H; rw [if_pos rfl] at H1; clear H; have H := H1; clear H1
  by_cases c6 : t107.length < 140737488355328
  ·rw [if_pos c6] at H
   have LMc6 := Aside0.mk c6; clear c6; obtain ⟨aj, hy111⟩ : ∃ y_ : List Int, y_ = (t107 ++ [(ac) % 256]) := ⟨_, rfl⟩; (replace H : ((wire_number.f k ([] : List Int) (wrap64 (ae)) 4).bind fun t114 => (if 0 ≤ (wrap64 (Int.tdiv (wrap64 (ac + 7)) 8)) then (if (wrap64 (Int.tdiv (wrap64 (ac + 7)) 8)) ≤ (t114.length : Int) then ((some (t114.take ((wrap64 (Int.tdiv (wrap64 (ac + 7)) 8)) : Int).toNat : List Int)).bind fun ag => (if aj.length + ag.length < 140737488355328 then (some (aj ++ ag)) else (none))) else (none)) else (none))) = some r := by first | (rw [hy111]; with_reducible exact H) | (have H2_ := (Option.bind_some _ _).symm.trans H; rw [hy111]; with_reducible exact H2_) | (have H2_ := (Option.bind_some _ _).symm.trans H; with_reducible exact H2_) | with_reducible exact H | (rw [hy111]; exact H) | exact H); have Ny111 := Aside0.mk hy111; clear hy111; replace H := Option.bind_eq_some_iff.mp H; obtain ⟨t114, A70, H⟩ := H; (try dsimp only at H); have A7 := Aside0.mk A70; clear A70; obtain ⟨ak, hji8⟩ : ∃ j_ : Int, (wrap64 (Int.tdiv (wrap64 (ac + 7)) 8)) = j_ := ⟨_, rfl⟩; (replace H : (if 0 ≤ (ak) then (if (ak) ≤ (t114.length : Int) then ((some (t114.take ((ak) : Int).toNat : List Int)).bind fun ag => (if aj.length + ag.length < 140737488355328 then (some (aj ++ ag)) else (none))) else (none)) else (none)) = some r := by first | (rw [hji8] at H; exact H) | (simp only [hji8] at H ⊢; exact H)); (try rw [hji8] at A3); (try rw [hji8] at A4); (try rw [hji8] at A7); have hji8w : (IntKind.i64.wrap (Int.tdiv (wrap64 (ac + 7)) 8)) = ak := (i64_w _).trans hji8
   by_cases c9 : 0 ≤ (ak)
   ·rw [if_pos c9] at H
    have c9b0 := eq_true c9; have c9b1 : decide (0 ≤ (ak)) = true := decide_eq_true c9; clear c9
    by_cases c10 : (ak) ≤ (t114.length : Int)
    ·rw [if_pos c10] at H
     have c10b0 := eq_true c10; have c10b1 : decide ((ak) ≤ (t114.length : Int)) = true := decide_eq_true c10; clear c10; obtain ⟨ag, hy117⟩ : ∃ y_ : List Int, y_ = (t114.take ((ak) : Int).toNat) := ⟨_, rfl⟩; (replace H : (if aj.length + ag.length < 140737488355328 then (some (aj ++ ag)) else (none)) = some r := by first | (rw [hy117]; with_reducible exact H) | (have H2_ := (Option.bind_some _ _).symm.trans H; rw [hy117]; with_reducible exact H2_) | (have H2_ := (Option.bind_some _ _).symm.trans H; with_reducible exact H2_) | with_reducible exact H | (rw [hy117]; exact H) | exact H); have Ny117 := Aside0.mk hy117; clear hy117
     by_cases c11 : aj.length + ag.length < 140737488355328
     ·rw [if_pos c11] at H
      have LMc11 := Aside0.mk c11; clear c11; obtain ⟨y121, hy121⟩ : ∃ y_ : List Int, y_ = (aj ++ ag) := ⟨_, rfl⟩; (replace H : (some y121) = some r := by first | (rw [hy121]; with_reducible exact H) | (have H2_ := (Option.bind_some _ _).symm.trans H; rw [hy121]; with_reducible exact H2_) | (have H2_ := (Option.bind_some _ _).symm.trans H; with_reducible exact H2_) | with_reducible exact H | (rw [hy121]; exact H) | exact H); have Ny121 := Aside0.mk hy121; clear hy121; obtain rfl := Option.some.inj H
      go_enter Try.func12, Try.ntmps12
      try go_wp2_with (first | ((with_reducible refine gate_dst (N := 3) rfl ?_); refine box_event ?hg (N := 3) ?hd (cs := #[.int .u32 ae, .int .i64 ac]) (t := 25) ?hr ?_; (case hd => rfl); (case hg => rfl); (case hr => first | (go_simp; done) | (go_simp; rfl)); intro ab hg w12 hbox hb; have n0_ := Aside0.mk (below_step (by repeat (first | (with_reducible first | exact HB.out | apply bA_ | apply bN_ | apply bD_) | exact HB.out)) hb); have n1_ := Aside0.mk (hbox); have n2_ := Aside0.mk ((by rw [hg]; exact (below_size (by repeat (first | (with_reducible first | exact HB.out | apply bA_ | apply bN_ | apply bD_) | exact HB.out))) : w.heap.size ≤ ab)); have n3_ := n2_; clear HB; have HB := n0_; have aa := n1_; have GW106 := n2_; have ad := n3_; clear n0_ n1_ n2_ n3_; clear hb hbox hg) | ((with_reducible refine gate_callee (f := 27) rfl ?_); refine goesL_ (some 7) rfl rfl Try.func27 (by kernel_rfl) rfl #[.slice A0 l0.length c0] rfl (by (try simp only [List.map_toArray, List.map_cons, List.map_nil]); first | done | rfl) ?_; (with_reducible refine (bytes_Clone.calls _ _ l0 t107 _ ?side1 ?side2 A3.out).mono ?_); (case side1 => repeat (first | exact (Kd.C_below HR0.out HB.out) | (with_reducible refine Kd.C_alloc ?_ _) | (with_reducible refine Kd.C_drewN ?_ _) | (with_reducible refine Kd.C_drew ?_))); (case side2 => exact HC0.out); rintro e w13 ⟨v108, rfl, ho0, hb⟩; refine ⟨_, rfl, ?_⟩; have ah := Aside0.mk (Kd.R_lower ho0 (below_size (by repeat (first | (with_reducible first | exact HB.out | apply bA_ | apply bN_ | apply bD_ | refine below_set ?_ ad.out) | exact HB.out)))); replace aa := Aside0.mk (blk_below (g := ab) (by (with_reducible repeat (first | refine blk_drewN ?_ _ | refine blk_drew ?_ | refine blk_alloc ?_ _)); exact aa.out) hb); replace HB := Aside0.mk (below_step (by repeat (first | (with_reducible first | exact HB.out | apply bA_ | apply bN_ | apply bD_ | refine below_set ?_ ad.out) | exact HB.out)) hb); (try clear hb); (try clear ho0); have hcz14_0 := blk_cell aa.out; have hfz14_0 := blk_frozen aa.out) | ((with_reducible refine gate_callee (f := 25) rfl ?_); refine goesL_ (some 9) rfl rfl Try.func25 (by kernel_rfl) rfl #[.agg #[.int .u32 ae, .int .i64 ac]] rfl (by (try simp only [List.map_toArray, List.map_cons, List.map_nil]); first | done | rfl) ?_; (with_reducible refine (addr_May.calls ae ac true _ A4.out).mono ?_); rintro e w15 ⟨rfl, hb⟩; refine ⟨_, rfl, ?_⟩; replace ah := Aside0.mk (Kd.R_below (by (with_reducible repeat (first | apply rA_ | apply rN_ | apply rD_)); exact ah.out) hb); replace aa := Aside0.mk (blk_below (g := ab) (by (with_reducible repeat (first | refine blk_drewN ?_ _ | refine blk_drew ?_ | refine blk_alloc ?_ _)); exact aa.out) hb); replace HB := Aside0.mk (below_step (by repeat (first | (with_reducible first | exact HB.out | apply bA_ | apply bN_ | apply bD_ | refine below_set ?_ ad.out) | exact HB.out)) hb); (try clear hb); have hcz16_0 := blk_cell aa.out; have hfz16_0 := blk_frozen aa.out) | ((with_reducible refine gate_builtin (b := .append) (xs := #[.tmp 12, .tmp 16]) rfl ?_); at_builtin; refine Kd.R_append (Kd.int .u8) (w0 := w) w.heap.size rfl (.tmp 12) (.tmp 16) 22 5 (.int .u8 0) 1 rfl Try.underlying22 info5 rfl (by decide) (by omega) v108 t107 ((ac) % 256) [.int .u8 ((ac) % 256)] (fun _ => True) (fun _ => False) rfl rfl ?aP (fun _ hk => hk.elim) ?aF ?aO ?aB ?aS ?aL ?_; (case aP => exact rfl); (case aB => exact (by repeat (first | (with_reducible first | exact HB.out | apply bA_ | apply bN_ | apply bD_ | refine below_set ?_ ad.out) | exact HB.out))); (case aF => exact (fun _ _ => trivial)); (case aO => exact (by (with_reducible repeat (first | apply rA_ | apply rN_ | apply rD_)); exact ah.out)); (case aS => exact (below_size (by repeat (first | (with_reducible first | exact HB.out | apply bA_ | apply bN_ | apply bD_ | refine below_set ?_ ad.out) | exact HB.out)))); (case aL => have := LMc6.out; omega); intro v112 w17 ho hb hg hat; rw [← Ny111.out] at ho; replace aa := Aside0.mk (blk_grown (g := ab) (o := .cells #[.int .u32 ae, .int .i64 ac] 25 (0, 0)) (by (with_reducible repeat (first | refine blk_drewN ?_ _ | refine blk_drew ?_ | refine blk_alloc ?_ _)); exact aa.out) hg (Kd.R_ne ah.out aa.out (by decide))); replace HB := Aside0.mk (hb); have af := Aside0.mk (ho); clear ah; clear ho hb hg hat))
      have n0_ := Aside0.mk (Kd.R_drew af.out); have n1_ := Aside0.mk (blk_drew aa.out); have n2_ := Aside0.mk (below_drew1 HB.out); clear af; clear aa; clear HB; have af := n0_; have aa := n1_; have HB := n2_; clear n0_ n1_ n2_; (refine start_ (n := 12) (S := k9926.S0 ab (.int .u32 ae) (.int .i64 ac)) (ds := []) #[false, false, false, false, false, false, false, false, false, false, false, false] (by kernel_rfl) rfl rfl (k9926.b2e aa.out) (fun hHeld => ?_); refine with_tabW wire_Prefix.tab5 wire_Prefix.bits5 (fun HT_ HW_ => ?_)); generalize w17.drew = w18 at af aa HB hHeld ⊢; refine pu_ 0 18 HT_.out ?_; refine pu_ 1 19 HT_.out ?_; refine pu_ 5 23 HT_.out ?_; refine tk_ 2 20 HT_.out HW_.out hHeld ?_; refine pu_ 3 21 HT_.out ?_; refine tk_ 6 24 HT_.out HW_.out hHeld ?_; refine pu_ 7 25 HT_.out ?_; refine pu_ 8 26 HT_.out ?_; (refine one_ (i := 4) (N := some 22) (pf 12 9) rfl rfl (one_of HT_.out (by kernel_rfl)) (by decide) (fun K hK => ?_)); (refine goes_ Try.func28 (by kernel_rfl) rfl #[.slice none 0 0, .int .i64 (wrap64 (ae)), .int .i64 4] (by rfl) rfl rfl (by (try simp only [List.map_toArray, List.map_cons, List.map_nil]); first | done | rfl) ?_); refine (wire_number.calls k (fun k_ => some k_ = (.slice none 0 0 : Value).ownBlock) (.slice none 0 0) ([] : List Int) (wrap64 (ae)) 4 t114 w _ ?side1 ?side2 A7.out).mono ?_; ((case side1 => repeat (first | (with_reducible first | exact HB.out | apply bA_ | apply bN_ | apply bD_ | refine below_set ?_ ad.out) | exact HB.out))); (case side2 => exact Kd.R_nil _ _ _ _ _); rintro e w19 ⟨v115, rfl, ho0, hb, hkp⟩
      refine ⟨_, rfl, ?_⟩; (have n0_ := Aside0.mk (blk_kept (by (with_reducible repeat (first | refine blk_drewN ?_ _ | refine blk_drew ?_ | refine blk_alloc ?_ _)); exact aa.out) hkp (fun hs_ => (fun e_ => by simp [Value.ownBlock] at e_) hs_))); (have n1_ := Aside0.mk (Kd.R_mono (ok' := fun k_ => some k_ ≠ (v115 : Value).ownBlock) (Kd.R_keptB (af.out) hkp (fun k_ hk_ hs_ => (fun e_ => by simp [Value.ownBlock] at e_) hs_)) (fun k_ hk_ => fun e_ => Or.elim (ho0.1 k_ e_.symm) (fun hs_ => hk_.2.1 hs_) (fun hn_ => Nat.not_le.2 hk_.2.2 hn_)))); (have n2_ := Aside0.mk (Kd.R_mono (ok' := fun k_ => some k_ ≠ (v112 : Value).ownBlock) ho0 (fun k_ hk_ => Or.elim hk_ (fun hs_ => absurd hs_ (by simp [Value.ownBlock])) (fun hn_ => (Kd.fresh' (Kd.R_lt (by (with_reducible repeat (first | apply rA_ | apply rN_ | apply rD_)); exact af.out)) k_ hn_))))); have n3_ := Aside0.mk (hb); clear aa; clear af; clear HB; have aa := n0_; have af := n1_; have ai := n2_; have HB := n3_; clear n0_ n1_ n2_ n3_; (try clear hb); (try clear hkp); (try clear ho0); obtain ⟨Ao21, co21, eo21⟩ := Kd.R_slice ai.out; ((first | subst eo21 | (injection eo21 with f1_ f2_ f3_; have f4_ := f1_.symm; have f5_ := f3_.symm; clear f1_ f2_ f3_; subst f4_; subst f5_))); (have q20 : ((ak) : Int) ≤ ((t114.length : Int) : Int) := of_decide_eq_true (by assumption)); obtain ⟨i020, hi020, _, hsz20, _⟩ := info_parts info5; have hroom20 : t114.length ≤ co21 := (Kd.R_reads' ai.out).2.1; have hC20 : Kd.C (Kd.int .u8) _ Ao21 t114.length t114 := (Kd.R_reads' ai.out).2.2; (have hcut20 := cut_to (P := Try.prog) 22 5 .i64 Try.underlying22 hi020 Ao21 t114.length co21 (ak) (of_decide_eq_true (by assumption)) q20 hroom20)
      (have hr20 := Kd.C_take (m := ((ak) : Int).toNat) hC20 (by omega)); (have hy20 : ag.length = ((ak) : Int).toNat := (by rw [Ny117.out, List.length_take]; omega)); rw [← Ny117.out] at hr20; rw [← hy20] at hcut20; have HR120 := Aside0.mk hr20; (have HC120 := Aside0.mk (show ag.length ≤ co21 from by omega)); clear hr20 hC20 hroom20 hi020 hsz20; have KY20 := Aside0.mk hy20; clear hy20; (have KL20 := Aside0.mk (show ((ak) : Int).toNat ≤ t114.length from by omega)); replace q20 := eq_true q20; refine hK.out _ _ (k9926.b2e aa.out) (fun hHeld => ?_); clear hK K; refine norm_ (a' := ?_) ?_ ?_
      rotate_left
      ·show Act.put _ (some 22) _ = _
       simp only [Act.put, List.setIfInBounds_toArray, List.set_cons_zero, List.set_cons_succ, i64_w]; rfl
      refine pu_ 9 27 HT_.out ?_; (refine one_ (i := 10) (N := some 28) (pf 12 11) rfl rfl (one_of HT_.out (by kernel_rfl)) (by decide) (fun K hK => ?_)); (refine Kd.R_append_rows_step (Kd.int .u8) (w0 := w) w.heap.size (by rfl) (.tmp 18) (.tmp 27) 22 5 (.int .u8 0) 1 rfl Try.underlying22 info5 rfl (by decide) (by omega) v112 aj ag _ _ _ (fun k_ => some k_ ≠ (.slice Ao21 t114.length co21 : Value).ownBlock) (fun _ => False) rfl rfl ?aO ?aR (fun _ _ h => h) (fun _ h => h.elim) ?aF ?aB ?aS ?aL ?_); ((case aR => repeat (first | exact (by repeat (first | (with_reducible exact HR120.out) | (with_reducible refine Kd.C_alloc ?_ _) | (with_reducible refine Kd.C_drewN ?_ _) | (with_reducible refine Kd.C_drew ?_) | exact HR120.out)) | (with_reducible refine Kd.C_alloc ?_ _) | (with_reducible refine Kd.C_drewN ?_ _) | (with_reducible refine Kd.C_drew ?_)))); ((case aB => exact (by repeat (first | (with_reducible first | exact HB.out | apply bA_ | apply bN_ | apply bD_ | refine below_set ?_ ad.out) | exact HB.out)))); ((case aF => exact (fun k_ hk => Kd.fresh' (Kd.R_lt (by (with_reducible repeat (first | apply rA_ | apply rN_ | apply rD_)); exact ai.out)) k_ hk))); ((case aO => exact (by (with_reducible repeat (first | apply rA_ | apply rN_ | apply rD_)); exact af.out))); ((case aS => exact (below_size (by repeat (first | (with_reducible first | exact HB.out | apply bA_ | apply bN_ | apply bD_ | refine below_set ?_ ad.out) | exact HB.out))))); (case aL => have := LMc11.out; omega); intro v122 w22 ho hb hg hat; rw [← Ny121.out] at ho
      (have n0_ := Aside0.mk (blk_grown (g := ab) (o := .cells #[.int .u32 ae, .int .i64 ac] 25 (0, 0)) (by (with_reducible repeat (first | refine blk_drewN ?_ _ | refine blk_drew ?_ | refine blk_alloc ?_ _)); exact aa.out) hg (Kd.R_ne af.out aa.out (by decide)))); (have n1_ := Aside0.mk (Kd.R_after (ok := (fun _ => True)) (by (with_reducible repeat (first | apply rA_ | apply rN_ | apply rD_)); exact Kd.R_mono ai.out (fun _ hk => ⟨trivial, hk⟩)) hg hat)); have n2_ := Aside0.mk (hb); (have n3_ := Aside0.mk ((show Kd.C (Kd.int .u8) w22 Ao21 ag.length ag from by rw [Ny117.out]; exact Kd.C_take (m := ((ak) : Int).toNat) ((Kd.R_reads' (Kd.R_after (ok := (fun _ => True)) (by (with_reducible repeat (first | apply rA_ | apply rN_ | apply rD_)); exact Kd.R_mono ai.out (fun _ hk => ⟨trivial, hk⟩)) hg hat)).2.2) KL20.out))); have n4_ := Aside0.mk (ho); clear aa; clear ai; clear HB; clear HR120; clear af; have aa := n0_; have ai := n1_; have HB := n2_; have HR120 := n3_; have HO123 := n4_; clear n0_ n1_ n2_ n3_ n4_; clear ho hb hg hat; refine hK.out _ _ (k9926.b2e aa.out) (fun hHeld => ?_); clear hK K; refine norm_ (a' := ?_) ?_ ?_
      rotate_left
      ·show Act.put _ (some 28) _ = _
       simp only [Act.put, List.setIfInBounds_toArray, List.set_cons_zero, List.set_cons_succ, i64_w]; rfl
      refine pu_ 11 4 HT_.out ?_; (refine done_ (done_of HT_.out (by kernel_rfl)) ?_); (try go_wp2)
      go_ret
      exact ⟨_, by first | rfl | (simp [errW_none, errW_some] <;> rfl) | (simp only [← hji8]; first | rfl | (simp [errW_none, errW_some] <;> rfl)) | (simp [*, errW_none, errW_some] <;> rfl), by (with_reducible repeat (first | apply rA_ | apply rN_ | apply rD_)); exact Kd.R_mono HO123.out (fun _ hk => trivial), by repeat (first | (with_reducible first | exact HB.out | apply bA_ | apply bN_ | apply bD_ | refine below_set ?_ ad.out) | exact HB.out)⟩
     ·rw [if_neg c11] at H
      exact absurd H (by simp)
    ·rw [if_neg c10] at H
     exact absurd H (by simp)
   ·rw [if_neg c9] at H
    exact absurd H (by simp)
  ·rw [if_neg c6] at H
   exact absurd H (by simp)
 ·replace c5 := Bool.eq_false_iff.mpr c5
  subst c5; (have H1 : (some t107) = some r := by rw [if_neg (show ¬ (false = true) by decide)] at H; exact H); clear H; have H := H1; clear H1; obtain rfl := Option.some.inj H
  go_enter Try.func12, Try.ntmps12
  go_wp2_with (first | ((with_reducible refine gate_dst (N := 3) rfl ?_); refine box_event ?hg (N := 3) ?hd (cs := #[.int .u32 ae, .int .i64 ac]) (t := 25) ?hr ?_; (case hd => rfl); (case hg => rfl); (case hr => first | (go_simp; done) | (go_simp; rfl)); intro ab hg w23 hbox hb; have n0_ := Aside0.mk (below_step (by repeat (first | (with_reducible first | exact HB.out | apply bA_ | apply bN_ | apply bD_) | exact HB.out)) hb); have n1_ := Aside0.mk (hbox); have n2_ := Aside0.mk ((by rw [hg]; exact (below_size (by repeat (first | (with_reducible first | exact HB.out | apply bA_ | apply bN_ | apply bD_) | exact HB.out))) : w.heap.size ≤ ab)); have n3_ := n2_; clear HB; have HB := n0_; have aa := n1_; have GW106 := n2_; have ad := n3_; clear n0_ n1_ n2_ n3_; clear hb hbox hg) | ((with_reducible refine gate_callee (f := 27) rfl ?_); refine goesL_ (some 7) rfl rfl Try.func27 (by kernel_rfl) rfl #[.slice A0 l0.length c0] rfl (by (try simp only [List.map_toArray, List.map_cons, List.map_nil]); first | done | rfl) ?_; (with_reducible refine (bytes_Clone.calls _ _ l0 t107 _ ?side1 ?side2 A3.out).mono ?_); (case side1 => repeat (first | exact (Kd.C_below HR0.out HB.out) | (with_reducible refine Kd.C_alloc ?_ _) | (with_reducible refine Kd.C_drewN ?_ _) | (with_reducible refine Kd.C_drew ?_))); (case side2 => exact HC0.out); rintro e w24 ⟨v108, rfl, ho0, hb⟩; refine ⟨_, rfl, ?_⟩; have ah := Aside0.mk (Kd.R_lower ho0 (below_size (by repeat (first | (with_reducible first | exact HB.out | apply bA_ | apply bN_ | apply bD_ | refine below_set ?_ ad.out) | exact HB.out)))); replace aa := Aside0.mk (blk_below (g := ab) (by (with_reducible repeat (first | refine blk_drewN ?_ _ | refine blk_drew ?_ | refine blk_alloc ?_ _)); exact aa.out) hb); replace HB := Aside0.mk (below_step (by repeat (first | (with_reducible first | exact HB.out | apply bA_ | apply bN_ | apply bD_ | refine below_set ?_ ad.out) | exact HB.out)) hb); (try clear hb); (try clear ho0); have hcz25_0 := blk_cell aa.out; have hfz25_0 := blk_frozen aa.out) | ((with_reducible refine gate_callee (f := 25) rfl ?_); refine goesL_ (some 9) rfl rfl Try.func25 (by kernel_rfl) rfl #[.agg #[.int .u32 ae, .int .i64 ac]] rfl (by (try simp only [List.map_toArray, List.map_cons, List.map_nil]); first | done | rfl) ?_; (with_reducible refine (addr_May.calls ae ac false _ A4.out).mono ?_); rintro e w26 ⟨rfl, hb⟩; refine ⟨_, rfl, ?_⟩; replace ah := Aside0.mk (Kd.R_below (by (with_reducible repeat (first | apply rA_ | apply rN_ | apply rD_)); exact ah.out) hb); replace aa := Aside0.mk (blk_below (g := ab) (by (with_reducible repeat (first | refine blk_drewN ?_ _ | refine blk_drew ?_ | refine blk_alloc ?_ _)); exact aa.out) hb); replace HB := Aside0.mk (below_step (by repeat (first | (with_reducible first | exact HB.out | apply bA_ | apply bN_ | apply bD_ | refine below_set ?_ ad.out) | exact HB.out)) hb); (try clear hb)))
  go_ret
  exact ⟨_, by first | rfl | (simp [errW_none, errW_some] <;> rfl) | (simp [*, errW_none, errW_some] <;> rfl), by (with_reducible repeat (first | apply rA_ | apply rN_ | apply rD_)); exact ah.out, by repeat (first | (with_reducible first | exact HB.out | apply bA_ | apply bN_ | apply bD_ | refine below_set ?_ ad.out) | exact HB.out)⟩

end Go.Proofs.Ytjmpojfpbhihpaa.P

end
section
namespace Go.Proofs
open Go.Shelf
def Try.lays215_ren : Go.Shelf.Ren := ⟨fun | 215 => 103 | n => n, fun | 3 => 3 | 4 => 4 | n => n, fun | n => n⟩
theorem Try.lays215 : Go.Proofs.Lays.n215 Try.prog Try.lays215_ren := {
  mixed := by kernel_rfl
  f215 := Try.func103.trans (congrArg some (by kernel_rfl))
  t3 := Try.underlying3
  a3 := Try.isAgg3
  z3 := Try.sizeOf3
  v3 := Try.zeroValue3
  t4 := Try.underlying4
  a4 := Try.isAgg4
  z4 := Try.sizeOf4
  v4 := Try.zeroValue4 }
open Go.RowKit in
/-- cmp.isNaN at int: 'x != x': false. (LAID: no walk: one application.) -/
theorem Try.cmp_isNaN_int (x : Int) (w : World) :
    Calls Try.prog 103 #[.int .i64 x] w fun e w' => e = .returned (.bool false) ∧ w' = w := Any.cmp_isNaN_int Try.lays215 x w
def Try.lays122_ren : Go.Shelf.Ren := ⟨fun | 122 => 90 | 215 => 103 | n => n, fun | 3 => 3 | 4 => 4 | n => n, fun | n => n⟩
theorem Try.lays122 : Go.Proofs.Lays.n122 Try.prog Try.lays122_ren := {
  mixed := by kernel_rfl
  f122 := Try.func90.trans (congrArg some (by kernel_rfl))
  f215 := Try.func103.trans (congrArg some (by kernel_rfl))
  t3 := Try.underlying3
  a3 := Try.isAgg3
  z3 := Try.sizeOf3
  v3 := Try.zeroValue3
  t4 := Try.underlying4
  a4 := Try.isAgg4
  z4 := Try.sizeOf4
  v4 := Try.zeroValue4 }
open Go.RowKit in
/-- cmp.Compare at int: "Compare returns -1 if x is less than y, 0 if x equals y, +1 if x is greater than y.": IT RETURNS 'Lib.compareInt x y'; the world is as it was. (LAID: no walk: one application.) -/
theorem Try.cmp_Compare_int (x y : Int) (w : World) :
    Calls Try.prog 90 #[.int .i64 x, .int .i64 y] w fun e w' => e = .returned (.int .i64 (Lib.compareInt x y)) ∧ w' = w := Any.cmp_Compare_int Try.lays122 x y w
def Try.lays212_ren : Go.Shelf.Ren := ⟨fun | 212 => 86 | 263 => 101 | 264 => 102 | n => n, fun | 46 => 64 | 51 => 23 | 146 => 123 | 53 => 126 | 148 => 127 | n => n, fun | n => n⟩
theorem Try.lays212 : Go.Proofs.Lays.n212 Try.prog Try.lays212_ren := {
  mixed := by kernel_rfl
  f212 := Try.func86.trans (congrArg some (by kernel_rfl))
  f263 := Try.func101.trans (congrArg some (by kernel_rfl))
  f264 := Try.func102.trans (congrArg some (by kernel_rfl))
  t46 := Try.underlying64
  a46 := Try.isAgg64
  z46 := Try.sizeOf64
  v46 := Try.zeroValue64
  t51 := Try.underlying23
  a51 := Try.isAgg23
  z51 := Try.sizeOf23
  v51 := Try.zeroValue23
  t53 := Try.underlying126
  a53 := Try.isAgg126
  z53 := Try.sizeOf126
  v53 := Try.zeroValue126
  t146 := Try.underlying123
  a146 := Try.isAgg123
  z146 := Try.sizeOf123
  v146 := Try.zeroValue123
  t148 := Try.underlying127
  a148 := Try.isAgg127
  z148 := Try.sizeOf127
  v148 := Try.zeroValue127 }
open Go.RowKit Go.Lib in
/-- math/bits.Mul: "Mul returns the full-width product of x and y": on a machine of 64 bits: Mul64's. (LAID: no walk: one application.) -/
theorem Try.bits_Mul (x y : Nat) (hx : x < 18446744073709551616) (hy : y < 18446744073709551616) (w : World) :
    Calls Try.prog 86 #[.int .u64 x, .int .u64 y] w fun e w' => e = .returned (.tuple #[.int .u64 ((x * y / 18446744073709551616 : Nat) : Int), .int .u64 ((x * y % 18446744073709551616 : Nat) : Int)]) ∧ w' = w := Any.bits_Mul Try.lays212 x y hx hy w
def Try.lays115_ren : Go.Shelf.Ren := ⟨fun | 115 => 48 | n => n, fun | 37 => 22 | 4 => 4 | 9 => 9 | 5 => 5 | n => n, fun | n => n⟩
theorem Try.lays115 : Go.Proofs.Lays.n115 Try.prog Try.lays115_ren := {
  mixed := by kernel_rfl
  f115 := Try.func48.trans (congrArg some (by kernel_rfl))
  t4 := Try.underlying4
  a4 := Try.isAgg4
  z4 := Try.sizeOf4
  v4 := Try.zeroValue4
  t9 := Try.underlying9
  a9 := Try.isAgg9
  z9 := Try.sizeOf9
  v9 := Try.zeroValue9
  t37 := Try.underlying22
  a37 := Try.isAgg22
  z37 := Try.sizeOf22
  v37 := Try.zeroValue22 }
/-- bytes.Equal: "Equal reports whether a and b are the same length and contain the same bytes. A nil argument is equivalent to an empty slice.": IT RETURNS 'the bytes of the one == the bytes of the other'; the world is as it was. THE TWO ARGUMENTS COME AS WHATEVER VALUES, each with the one fact that the walk wants of it: what 'string(..)' of it gives: for a slice whose cells you know: 'run_convert_bytes_arg' (Derived/Laws/BytesArg.lean) hands that fact; for a nil one: 'run_convert_bytes_nil' (with xs := []). (LAID: no walk: one application.) -/
theorem Try.bytes_Equal (v1 v2 : Value) (xs ys : List Int) (w : World) (h1 : (convert 22 9 v1).run Try.prog w = .ok (.string (strOfNums xs)) w) (h2 : (convert 22 9 v2).run Try.prog w = .ok (.string (strOfNums ys)) w) :
    Calls Try.prog 48 #[v1, v2] w fun e w' => e = .returned (.bool (Lib.bytesOf xs == Lib.bytesOf ys)) ∧ w' = w := Any.bytes_Equal Try.lays115 v1 v2 xs ys w h1 h2
end Go.Proofs

end
section
namespace Go.Proofs.Ytjmpojfpbhihpaa.P
open Go.RowKit Go.Proofs.YtjmpojfpbhihpaaW.PrintWords Go.Proofs.YtjmpojfpbhihpaaW.PrintLast Go.Proofs.YtjmpojfpbhihpaaW.PrintMore
attribute [local go_sem] max2_int min2_int max_two min_two max_three min_three max_four min_four   -- for this text's walks alone
set_option linter.unusedVariables false
set_option linter.unusedSimpArgs false

/-- a message with its head -/
def wire_framed.hd (kind : Int) (n : Int) : List Int := List.replicate 16 255 ++ [n / 256 % 256, n % 256] ++ [kind]
def wire_framed.f (kind : Int) (l0 : List Int) : Option (List Int) := if l0.length ≤ 1000000 then some (wire_framed.hd kind (19 + (l0.length : Int)) ++ l0) else none
/-- sixteen bytes of 255, in a block of one's own -/
def wire_framed.Sx (g : Nat) (W : World) : Prop := ∀ j, j < 16 → W.cell? ⟨g, j, none⟩ = some (.int .u8 255)
theorem wire_framed.cellOf {W : World} {g : Nat} {cur : List Value} {t : TypeId} (h : W.heap[g]? = some (.cells cur.toArray t (0, 0))) {j : Nat} {v : Value} (hj : cur[j]? = some v) : W.cell? ⟨g, j, none⟩ = some v := by
  (have h1 : cur.toArray[j]? = some v := by simpa using hj); simp only [World.cell?, h]; exact h1
theorem wire_framed.src {W : World} {g : Nat} {cur : List Value} {t : TypeId} (h : W.heap[g]? = some (.cells cur.toArray t (0, 0))) {p : Nat} {x : Value} (hx : ∀ j, j < p → cur[j]? = some x) : ∀ j v, (List.replicate p x)[j]? = some v → W.cell? ((⟨g, 0, none⟩ : Addr).add j) = some v := by
  intro j v hj; rw [List.getElem?_replicate] at hj
  split at hj
  · rename_i hl
    rw [← hj, WideShapes.add_plain, Nat.zero_add]; exact wire_framed.cellOf h (hx j hl)
  · cases hj
theorem wire_framed.spl {cur : List Value} {p : Nat} {x : Value} (hx : ∀ j, j < p → cur[j]? = some x) (hl : 2 * p ≤ cur.length) : (splice cur p (List.replicate p x)).length = cur.length ∧ ∀ j, j < 2 * p → (splice cur p (List.replicate p x))[j]? = some x := by
  refine ⟨length_splice _ _ _ (by simp; omega), fun j hj => ?_⟩
  unfold splice
  by_cases h1 : j < p
  · rw [List.getElem?_append_left (by simp; omega), List.getElem?_take_of_lt h1]; exact hx j h1
  · rw [List.getElem?_append_right (by simp; omega), List.getElem?_append_left (by simp; omega), List.getElem?_replicate, if_pos (by simp; omega)]
set_option maxHeartbeats 4000000 in
set_option maxRecDepth 100000 in
theorem wire_framed.rep (b c : Nat) (w : World) (hb : w.cell? ⟨b, 0, none⟩ = some (.int .u8 255)) :
    Calls Try.prog 64 #[.slice (some ⟨b, 0, none⟩) 1 c, .int .i64 16] w fun e w' => ∃ g, e = .returned (.slice (some ⟨g, 0, none⟩) 16 16) ∧ w.heap.size ≤ g ∧ wire_framed.Sx g w' ∧ Below w.heap.size w w' := by
  (have HMUL := mkHid (fun W => Try.bits_Mul 1 16 (by omega) (by omega) W)); (obtain ⟨cs, hrunM, hle, hmax⟩ := Lib.run_makeNoZero (P := Try.prog) w #[3] 22 5 Try.underlying22 16 (by omega))
  have hcall : (callFunc 87 #[.int .i64 (16 : Int)]).run Try.prog w = .ok (.value (.slice (some ⟨w.heap.size, 0, none⟩) 16 cs.size)) ((w.alloc (.cells cs 5)).drewN 2) := by
    rw [run_callFunc_extern Try.func87 (by kernel_rfl) (by kernel_rfl) (by kernel_rfl) (e := Extern.BytealgMakeNoZero.makeNoZero #[3] #[22]) (by kernel_rfl)]
    show Result.andThen _ _ = _
    rw [show ((16 : Int)) = ((16 : Nat) : Int) from rfl, hrunM]; rfl
  (have i1 : (16 : Int) ≤ (cs.size : Int) := by omega); have hbl := World.block_lt_of_cell? _ _ hb
  have HG : Hid (((w.alloc (.cells cs 5)).drewN 2).heap[w.heap.size]? = some (.cells cs.toList.toArray 5 (0, 0))) := by
    show (w.alloc (.cells cs 5)).heap[w.heap.size]? = _
    rw [Array.toArray_toList]; exact heap_alloc_new w _
  have HB : Hid (Below w.heap.size w ((w.alloc (.cells cs 5)).drewN 2)) := pw_below_drewN (below_alloc (Below.refl _ _) _) 2
  have HC : Hid (∀ j v, ([.int .u8 255] : List Value)[j]? = some v → ((w.alloc (.cells cs 5)).drewN 2).cell? ((⟨b, 0, none⟩ : Addr).add j) = some v) := by
    intro j v hj
    match j with
    | 0 =>
      simp at hj; subst hj
      show ((w.alloc (.cells cs 5)).drewN 2).cell? ⟨b, 0, none⟩ = _
      exact pw_cell_below HB.out hb
    | j + 1 => simp at hj
  have HLE := mkHid hle; clear hrunM hb hle hmax
  go_enter Try.func64, Try.ntmps64
  go_upto_region 17 with (go_at_call 86; refine (HMUL.out _).mono ?_; rintro e w' ⟨rfl, hw⟩; rw [hw]; clear hw)
  go_wp2_with ((refine wpList_copy_splice ?a1 (.tmp 58) (.tmp 59) 22 22 ?a2 5 Try.underlying22 ?a3 (some ⟨w.heap.size, 0, none⟩) (some ⟨b, 0, none⟩) 16 16 1 c ?a4 ?a5 w.heap.size 0 cs.toList 5 ?a6 [.int .u8 255] ?a7 ?a8 ?a9 ?aA w.heap.size w ?aB (Nat.le_refl _) ?_; (case a1 => rfl); (case a2 => rfl); (case a3 => kernel_rfl); (case a4 => rfl); (case a5 => rfl); (case a6 => exact HG.out); (case a7 => rfl); (case a8 => exact fun _ => ⟨rfl, _, rfl, HC.out⟩); (case a9 => (have := HLE.out; simp; omega)); (case aA => simp [Value.oneCell']); (case aB => exact HB.out); intro w2 hg2 hb2))
  have HB2 := mkHid hb2; clear hb2 HC HG HB HMUL hcall i1
  have HL0 : Hid (16 ≤ (splice cs.toList 0 [Value.int .u8 255]).length) := by
    have := HLE.out
    unfold Hid
    rw [length_splice _ _ _ (by simp; omega)]; simpa using this
  have HX0 : Hid (∀ j, j < 1 → (splice cs.toList 0 [Value.int .u8 255])[j]? = some (.int .u8 255)) := by
    intro j hj; (obtain rfl : j = 0 := by omega); simp [splice]
  generalize splice cs.toList 0 [Value.int .u8 255] = cur0 at *; clear HLE
  go_loopg [10] 15 (fun kq v10 wr => ∃ (p : Nat) (cur : List Value), v10 = .int .i64 p ∧ (p = 1 ∨ p = 2 ∨ p = 4 ∨ p = 8 ∨ p = 16) ∧ kq = 16 - p ∧ Hid (16 ≤ cur.length) ∧ Hid (wr.heap[w.heap.size]? = some (.cells cur.toArray 5 (0, 0))) ∧ Hid (∀ j, j < p → cur[j]? = some (.int .u8 255)) ∧ Hid (Below w.heap.size w wr))
  case atStart => exact ⟨1, cur0, rfl, .inl rfl, rfl, HL0.out, hg2, HX0.out, HB2.out⟩
  case round =>
    clear HB2 HL0 HX0 hg2 cur0; obtain ⟨p, cur, rfl, hp, hkq, HL, HG, HX, HB⟩ := hrel
    rcases hp with rfl | rfl | rfl | rfl | rfl
    · go_upto_region 20 with fail
      have hs1 := wire_framed.src HG.out HX.out; have HSR := mkHid hs1; clear hs1
      go_region_law
        ((refine step_copy_splice ?a1 (.tmp 70) (.tmp 73) 22 22 ?a2 5 Try.underlying22 ?a3 (some ⟨w.heap.size, 1, none⟩) (some ⟨w.heap.size, 0, none⟩) 15 15 1 16 ?a4 ?a5 w.heap.size 1 cur 5 ?a6 (List.replicate 1 (.int .u8 255)) ?a7 ?a8 ?a9 ?aA w.heap.size w ?aB (Nat.le_refl _) ?_; (case a1 => rfl); (case a2 => rfl); (case a3 => kernel_rfl); (case a4 => go_simp); (case a5 => go_simp); (case a6 => exact HG.out); (case a7 => rfl); (case a8 => exact fun _ => ⟨rfl, _, rfl, HSR.out⟩); (case a9 => (have := HL.out; simp; omega)); (case aA => simp [Value.oneCell']); (case aB => exact HB.out.drew); intro w3 hg3 hb3))
      all_goals
        (obtain ⟨hl, hx⟩ := wire_framed.spl (p := 1) HX.out (by have := HL.out; omega)); have HB3 := mkHid hb3; have HX3 := mkHid hx; have HL3 := mkHid hl; clear hb3 hx hl
        go_wp2_with fail
        go_roundg 14
        case measure => omega
        case rel => exact ⟨2, _, rfl, by omega, by omega, by have := HL.out; have := HL3.out; unfold Hid; omega, hg3, HX3.out, HB3.out⟩
    · go_upto_region 20 with fail
      have hs2 := wire_framed.src HG.out HX.out; have HSR := mkHid hs2; clear hs2
      go_region_law
        ((refine step_copy_splice ?a1 (.tmp 70) (.tmp 73) 22 22 ?a2 5 Try.underlying22 ?a3 (some ⟨w.heap.size, 2, none⟩) (some ⟨w.heap.size, 0, none⟩) 14 14 2 16 ?a4 ?a5 w.heap.size 2 cur 5 ?a6 (List.replicate 2 (.int .u8 255)) ?a7 ?a8 ?a9 ?aA w.heap.size w ?aB (Nat.le_refl _) ?_; (case a1 => rfl); (case a2 => rfl); (case a3 => kernel_rfl); (case a4 => go_simp); (case a5 => go_simp); (case a6 => exact HG.out); (case a7 => rfl); (case a8 => exact fun _ => ⟨rfl, _, rfl, HSR.out⟩); (case a9 => (have := HL.out; simp; omega)); (case aA => simp [Value.oneCell']); (case aB => exact HB.out.drew); intro w3 hg3 hb3))
      all_goals
        (obtain ⟨hl, hx⟩ := wire_framed.spl (p := 2) HX.out (by have := HL.out; omega)); have HB3 := mkHid hb3; have HX3 := mkHid hx; have HL3 := mkHid hl; clear hb3 hx hl
        go_wp2_with fail
        go_roundg 12
        case measure => omega
        case rel => exact ⟨4, _, rfl, by omega, by omega, by have := HL.out; have := HL3.out; unfold Hid; omega, hg3, HX3.out, HB3.out⟩
    · go_upto_region 20 with fail
      have hs4 := wire_framed.src HG.out HX.out; have HSR := mkHid hs4; clear hs4
      go_region_law
        ((refine step_copy_splice ?a1 (.tmp 70) (.tmp 73) 22 22 ?a2 5 Try.underlying22 ?a3 (some ⟨w.heap.size, 4, none⟩) (some ⟨w.heap.size, 0, none⟩) 12 12 4 16 ?a4 ?a5 w.heap.size 4 cur 5 ?a6 (List.replicate 4 (.int .u8 255)) ?a7 ?a8 ?a9 ?aA w.heap.size w ?aB (Nat.le_refl _) ?_; (case a1 => rfl); (case a2 => rfl); (case a3 => kernel_rfl); (case a4 => go_simp); (case a5 => go_simp); (case a6 => exact HG.out); (case a7 => rfl); (case a8 => exact fun _ => ⟨rfl, _, rfl, HSR.out⟩); (case a9 => (have := HL.out; simp; omega)); (case aA => simp [Value.oneCell']); (case aB => exact HB.out.drew); intro w3 hg3 hb3))
      all_goals
        (obtain ⟨hl, hx⟩ := wire_framed.spl (p := 4) HX.out (by have := HL.out; omega)); have HB3 := mkHid hb3; have HX3 := mkHid hx; have HL3 := mkHid hl; clear hb3 hx hl
        go_wp2_with fail
        go_roundg 8
        case measure => omega
        case rel => exact ⟨8, _, rfl, by omega, by omega, by have := HL.out; have := HL3.out; unfold Hid; omega, hg3, HX3.out, HB3.out⟩
    · go_upto_region 20 with fail
      have hs8 := wire_framed.src HG.out HX.out; have HSR := mkHid hs8; clear hs8
      go_region_law
        ((refine step_copy_splice ?a1 (.tmp 70) (.tmp 73) 22 22 ?a2 5 Try.underlying22 ?a3 (some ⟨w.heap.size, 8, none⟩) (some ⟨w.heap.size, 0, none⟩) 8 8 8 16 ?a4 ?a5 w.heap.size 8 cur 5 ?a6 (List.replicate 8 (.int .u8 255)) ?a7 ?a8 ?a9 ?aA w.heap.size w ?aB (Nat.le_refl _) ?_; (case a1 => rfl); (case a2 => rfl); (case a3 => kernel_rfl); (case a4 => go_simp); (case a5 => go_simp); (case a6 => exact HG.out); (case a7 => rfl); (case a8 => exact fun _ => ⟨rfl, _, rfl, HSR.out⟩); (case a9 => (have := HL.out; simp; omega)); (case aA => simp [Value.oneCell']); (case aB => exact HB.out.drew); intro w3 hg3 hb3))
      all_goals
        (obtain ⟨hl, hx⟩ := wire_framed.spl (p := 8) HX.out (by have := HL.out; omega)); have HB3 := mkHid hb3; have HX3 := mkHid hx; have HL3 := mkHid hl; clear hb3 hx hl
        go_wp2_with fail
        go_roundg 0
        case measure => omega
        case rel => exact ⟨16, _, rfl, by omega, by omega, by have := HL.out; have := HL3.out; unfold Hid; omega, hg3, HX3.out, HB3.out⟩
    · go_wp2_with fail
      go_ret
      refine ⟨w.heap.size, rfl, Nat.le_refl _, fun j hj => wire_framed.cellOf HG.out (HX.out j hj), HB.out⟩
theorem wire_framed.reps (w : World) (xs : List Int) : Reps ((Kd.int .u8).K w) 1 xs (xs.map (Value.int .u8)) := by
  refine ⟨by simp, fun j p hj => ?_⟩
  show ((xs.map (Value.int .u8)).drop (j * 1)).take 1 = [.int .u8 p]
  rw [Nat.mul_one]; (have h2 : (xs.map (Value.int .u8))[j]? = some (.int .u8 p) := by rw [List.getElem?_map, hj]; rfl); obtain ⟨h3, h4⟩ := List.getElem?_eq_some_iff.1 h2; rw [List.drop_eq_getElem_cons h3, h4]; rfl
/-- how far the number is written: m bytes of two, behind sixteen -/
def wire_framed.St (g : Nat) (n : Int) (W : World) (m : Nat) (v : Value) (wr : World) : Prop := Below W.heap.size W wr ∧ match m with
  | 0 => v = .slice (some ⟨g, 0, none⟩) 16 16 ∧ wire_framed.Sx g wr
  | 1 => Kd.R (Kd.int .u8) 5 wr W.heap.size (fun _ => True) v (List.replicate 16 255 ++ [n / 256 % 256])
  | _ => Kd.R (Kd.int .u8) 5 wr W.heap.size (fun _ => True) v (List.replicate 16 255 ++ [n / 256 % 256] ++ [n % 256])
theorem wire_framed.info : (Try.prog.info? 5).map (fun i => (i.zero, i.size, i.bytes)) = some (some (.int .u8 0), 1, 1) := by kernel_rfl
set_option maxHeartbeats 4000000 in
set_option maxRecDepth 100000 in
theorem wire_framed.num (g : Nat) (n : Int) (h0 : 0 ≤ n) (h1 : n ≤ 2000000) (W : World) (hs : wire_framed.Sx g W) :
    Calls Try.prog 28 #[.slice (some ⟨g, 0, none⟩) 16 16, .int .i64 n, .int .i64 2] W fun e w' => ∃ v', e = .returned v' ∧ Kd.R (Kd.int .u8) 5 w' W.heap.size (fun _ => True) v' (List.replicate 16 255 ++ [n / 256 % 256] ++ [n % 256]) ∧ Below W.heap.size W w' := by
  obtain ⟨i0, hi, hz0, hz1, hz2⟩ := info_parts wire_framed.info; have HI := mkHid hi; have HS := mkHid hs; clear hs
  go_enter Try.func28, Try.ntmps28
  go_wp2_with fail
  go_loopg [0, 2] 2 (fun kq v0 v2 wr => ∃ (m : Nat), v2 = .int .i64 (1 - (m : Int)) ∧ m ≤ 2 ∧ kq = 2 - m ∧ Hid (wire_framed.St g n W m v0 wr))
  case atStart => exact ⟨0, rfl, by omega, rfl, Below.refl _ _, rfl, HS.out⟩
  case round =>
    clear HS; obtain ⟨m, rfl, hm, hkq, hst⟩ := hrel; obtain ⟨hb, hst⟩ := hst.out; have HB := mkHid hb; clear hb
    match m, hm with
    | 0, _ =>
      obtain ⟨rfl, hsx⟩ := hst; have HS := mkHid hsx; clear hsx; have hcn : ∀ j u, ([.int .u8 (n / 256 % 256)] : List Value)[j]? = some u → (wr.alloc (.cells #[.int .u8 (n / 256 % 256)] 5)).cell? ((⟨wr.heap.size, 0, none⟩ : Addr).add j) = some u := World.news_of_block (cs := #[.int .u8 (n / 256 % 256)]) (t := 5) (fr := (0, 0)) (heap_alloc_new wr _); have HCN := mkHid hcn
      have hco : ∀ b, some (⟨g, 0, none⟩ : Addr) = some b → ∀ j u, (List.replicate 16 (Value.int .u8 255))[j]? = some u → (wr.alloc (.cells #[.int .u8 (n / 256 % 256)] 5)).cell? (b.add j) = some u := by
        intro b hb j u hj
        cases hb
        rw [List.getElem?_replicate] at hj
        split at hj
        · rename_i hl
          rw [← hj, WideShapes.add_plain, Nat.zero_add]; exact pw_cell_below ((Below.refl _ _).alloc (Nat.le_refl _) _) (HS.out j hl)
        · cases hj
      have HCO := mkHid hco; have HBA : Hid (Below W.heap.size W (wr.alloc (.cells #[.int .u8 (n / 256 % 256)] 5))) := below_alloc HB.out _; clear hcn hco
      go_wp2_with (at_builtin; refine wpList_append_grows _ ?a1 (.tmp 13) (.tmp 19) 22 ?a2 5 i0 (.int .u8 0) 1 1 Try.underlying22 HI.out hz0 hz1 hz2 ?a3 ?a4 (some ⟨g, 0, none⟩) 16 16 (List.replicate 16 (Value.int .u8 255)) ?a5 ?a6 ?a7 HCO.out ⟨wr.heap.size, 0, none⟩ 1 1 [.int .u8 (n / 256 % 256)] ?a8 ?a9 HCN.out ?aA ?aB ?aC ?aD ?_; (case a1 => rfl); (case a2 => rfl); (case a3 => rfl); (case a4 => omega); (case a5 => rfl); (case a6 => (intro h; cases h)); (case a7 => rfl); (case a8 => rfl); (case a9 => rfl); (case aA => simp [Value.oneCell']); (case aB => omega); (case aC => (unfold maxLen; omega)); (case aD => omega); intro v1 w1 hown hgrow)
      have HR1 : Hid (Kd.R (Kd.int .u8) 5 w1 W.heap.size (fun _ => True) v1 (List.replicate 16 255 ++ [n / 256 % 256])) := Kd.R_lower (flat_own (w := w1) (fun h _ _ _ => h) hown rfl (wire_framed.reps w1 (List.replicate 16 255 ++ [n / 256 % 256]))) HBA.out.size; (have HB1 : Hid (Below W.heap.size W w1) := pw_below_grown HBA.out none HBA.out.size hgrow (fun _ h => by cases h)); clear hown hgrow
      go_wp2_with fail
      go_roundg 1
      case measure => omega
      case rel => exact ⟨1, rfl, by omega, rfl, HB1.out, HR1.out⟩
    | 1, _ =>
      have HR := mkHid (show Kd.R (Kd.int .u8) 5 wr W.heap.size (fun _ => True) u0 (List.replicate 16 255 ++ [n / 256 % 256]) from hst); clear hst
      go_wp2_with (at_builtin; go_loud (refine Kd.R_append (Kd.int .u8) (w0 := W) W.heap.size ?a1 (.tmp 13) (.tmp 19) 22 5 (.int .u8 0) 1 ?a2 ?a3 ?a4 ?a5 ?a6 ?a7 u0 (List.replicate 16 255 ++ [n / 256 % 256]) (n % 256) [.int .u8 (n % 256)] (fun _ => True) (fun _ => False) ?a8 ?a9 ?aP ?aE ?aF ?aO ?aB ?aS ?aL ?_; (case a1 => rfl); (case a2 => rfl); (case a3 => exact Try.underlying22); (case a4 => exact wire_framed.info); (case a5 => rfl); (case a6 => decide); (case a7 => omega); (case a8 => rfl); (case a9 => rfl); (case aP => exact rfl); (case aE => exact fun _ h => h.elim); (case aF => exact fun _ _ => trivial); (case aO => exact HR.out); (case aB => exact HB.out); (case aS => exact HB.out.size); (case aL => simp); intro v1 w1 hR hB _ _))
      have HR1 := mkHid hR; have HB1 := mkHid hB; clear hR hB
      go_wp2_with fail
      go_roundg 0
      case measure => omega
      case rel => exact ⟨2, rfl, by omega, rfl, HB1.out, HR1.out⟩
    | 2, _ =>
      have HR := mkHid (show Kd.R (Kd.int .u8) 5 wr W.heap.size (fun _ => True) u0 (List.replicate 16 255 ++ [n / 256 % 256] ++ [n % 256]) from hst); clear hst
      go_wp2_with fail
      go_ret
      exact ⟨_, rfl, HR.out, HB.out⟩
    | m + 3, h => exact absurd h (by omega)
set_option maxHeartbeats 4000000 in
set_option maxRecDepth 100000 in
theorem wire_framed.calls (a0 : Int) (A1 : Option Addr) (c1 : Nat) (l1 : List Int) (r : List Int) (w : World) (hr1 : Kd.C (Kd.int .u8) w A1 l1.length l1) (hc1 : l1.length ≤ c1) (h : wire_framed.f a0 l1 = some r) :
    Calls Try.prog 37 #[.int .u8 a0, .slice A1 l1.length c1] w fun e w' => ∃ v0_ : Value, e = .returned v0_ ∧ Kd.R (Kd.int .u8) 5 w' w.heap.size (fun _ => True) v0_ r ∧ Below w.heap.size w w' := by
  unfold wire_framed.f at h
  split at h
  case isFalse => cases h
  rename_i hl
  obtain rfl := Option.some.inj h; have HR1 := mkHid hr1; have HL := mkHid hl; (have hw1 : IntKind.i64.wrap (19 + (l1.length : Int)) = 19 + (l1.length : Int) := IntWalk.i64_in _ (by omega)); (have hw1' : wrap64 (19 + (l1.length : Int)) = 19 + (l1.length : Int) := by rw [← i64_w]; exact hw1); obtain ⟨n, hn⟩ : ∃ n : Int, n = 19 + (l1.length : Int) := ⟨_, rfl⟩; rw [← hn] at hw1 hw1' ⊢; (have n0 : 0 ≤ n := by omega); (have n1 : n ≤ 2000000 := by omega); (rw [show IntKind.i64.wrap n = IntKind.i64.wrap (19 + (l1.length : Int)) from by rw [hn]] at hw1); (rw [show wrap64 n = wrap64 (19 + (l1.length : Int)) from by rw [hn]] at hw1'); have HN := mkHid hn; clear h hr1 hl hn; (have hb0 : (w.alloc (.cells #[.int .u8 255] 5)).cell? ⟨w.heap.size, 0, none⟩ = some (.int .u8 255) := by go_simp); have HREP := mkHid (wire_framed.rep w.heap.size 1 (w.alloc (.cells #[.int .u8 255] 5)) hb0); clear hb0
  go_enter Try.func37, Try.ntmps37
  go_upto_region 2 with (go_at_call 64; refine HREP.out.mono ?_; rintro e w1 ⟨g, rfl, hg, hs, hb⟩)
  have HB := mkHid (below_step (below_alloc (Below.refl _ _) _) hb); have HNUM := mkHid (wire_framed.num g n n0 n1 w1 hs); clear hb hs hg HREP; (have hlist : (List.replicate 16 255 ++ [n / 256 % 256] ++ [n % 256]) ++ [a0] = wire_framed.hd a0 n := by unfold wire_framed.hd; simp); have HLI := mkHid hlist; (have hlen : (wire_framed.hd a0 n).length = 19 := by unfold wire_framed.hd; simp); have HLN := mkHid hlen; clear hlist hlen
  go_wp2_with (first | (go_at_call 28; refine HNUM.out.mono ?_; rintro e w2 ⟨v2, rfl, hR, hb⟩; have HRR := mkHid (Kd.R_lower hR HB.out.size); have HB2 := mkHid (below_step HB.out hb); clear hR hb) | (at_builtin; refine Kd.R_append (Kd.int .u8) (w0 := w) w.heap.size ?a1 (.tmp 12) (.tmp 14) 22 5 (.int .u8 0) 1 ?a2 ?a3 ?a4 ?a5 ?a6 ?a7 v2 (List.replicate 16 255 ++ [n / 256 % 256] ++ [n % 256]) a0 [.int .u8 a0] (fun _ => True) (fun _ => False) ?a8 ?a9 ?aP ?aE ?aF ?aO ?aB ?aS ?aL ?_; (case a1 => rfl); (case a2 => rfl); (case a3 => exact Try.underlying22); (case a4 => exact wire_framed.info); (case a5 => rfl); (case a6 => decide); (case a7 => omega); (case a8 => rfl); (case a9 => rfl); (case aP => exact rfl); (case aE => exact fun _ h => h.elim); (case aF => exact fun _ _ => trivial); (case aO => exact HRR.out); (case aB => exact HB2.out); (case aS => exact HB2.out.size); (case aL => simp); intro v3 w3 hR hB _ _; rw [HLI.out] at hR; have HR3 := mkHid hR; have HB3 := mkHid hB; clear hR hB) | (at_builtin; refine Kd.R_append_rows (Kd.int .u8) (w0 := w) w.heap.size ?b1 (.tmp 16) (.tmp 17) 22 5 (.int .u8 0) 1 ?b2 ?b3 ?b4 ?b5 ?b6 ?b7 v3 (wire_framed.hd a0 n) l1 A1 l1.length c1 (fun _ => True) (fun _ => False) ?b8 ?b9 ?aO ?aR (fun _ _ h => h) (fun _ h => h.elim) ?aF ?aB ?aS ?aL ?_; (case b1 => rfl); (case b2 => rfl); (case b3 => exact Try.underlying22); (case b4 => exact wire_framed.info); (case b5 => rfl); (case b6 => decide); (case b7 => omega); (case b8 => rfl); (case b9 => rfl); (case aR => exact Kd.C_below HR1.out HB3.out); (case aB => exact HB3.out); (case aF => exact fun _ _ => trivial); (case aO => exact HR3.out); (case aS => exact HB3.out.size); (case aL => (have := HL.out; have := HLN.out; omega)); intro v4 w4 hR hB _ _; have HR4 := mkHid hR; have HB4 := mkHid hB; clear hR hB))
  go_ret
  exact ⟨_, rfl, HR4.out, HB4.out⟩

def wire_Alive.f  : Option (List Int) := (wire_framed.f 4 ([] : List Int)).bind fun t124 => (some t124)
set_option maxHeartbeats 8000000 in
set_option maxRecDepth 100000 in
theorem wire_Alive.calls  (r : List Int) (w : World) (h : wire_Alive.f  = some r) :
    Calls Try.prog 24 #[] w fun e w' => ∃ v0_ : Value, e = .returned (v0_) ∧ Kd.R (Kd.int .u8) 5 w' w.heap.size (fun _ => True) v0_ r ∧ Below w.heap.size w w' := by
  have HB := Aside0.mk (Below.refl w.heap.size w); have H : ((wire_framed.f 4 ([] : List Int)).bind fun t124 => (some t124)) = some r := h; clear h; replace H := Option.bind_eq_some_iff.mp H; obtain ⟨t124, A10, H⟩ := H; replace H : (some t124) = some r := H; have A1 := Aside0.mk A10; clear A10; obtain rfl := Option.some.inj H
  go_enter Try.func24, Try.ntmps24
  go_wp2_with (first | ((with_reducible refine gate_callee (f := 37) rfl ?_); refine goesL_ (some 1) rfl rfl Try.func37 (by kernel_rfl) rfl #[.int .u8 4, .slice none 0 0] rfl (by (try simp only [List.map_toArray, List.map_cons, List.map_nil]); first | done | rfl | (simp only [List.length_drop, List.length_take]; rfl)) ?_; (refine (wire_framed.calls 4 _ _ ([] : List Int) t124 _ ?side1 ?side2 A1.out).mono ?_); (case side1 => exact Kd.C_nil _ _); (case side2 => exact Nat.le_refl _); rintro e w2 ⟨v125, rfl, ho0, hb⟩; refine ⟨_, rfl, ?_⟩; have n0_ := Aside0.mk (Kd.R_lower ho0 (below_size (by repeat (first | (with_reducible first | exact HB.out | apply bA_ | apply bN_ | apply bD_) | exact HB.out)))); have n1_ := Aside0.mk (below_step (by repeat (first | (with_reducible first | exact HB.out | apply bA_ | apply bN_ | apply bD_) | exact HB.out)) hb); clear HB; have HO126 := n0_; have HB := n1_; clear n0_ n1_; (try clear hb); (try clear ho0)))
  go_ret
  exact ⟨_, by first | rfl | (simp [errW_none, errW_some] <;> rfl) | (simp [*, errW_none, errW_some] <;> rfl), by (with_reducible repeat (first | apply rA_ | apply rN_ | apply rD_)); exact HO126.out, by repeat (first | (with_reducible first | exact HB.out | apply bA_ | apply bN_ | apply bD_) | exact HB.out)⟩

def whirligiglaw10_lives.f (k : Nat)  : Option (Bool) := (wire_Alive.f).bind fun t127 => (if (t127.length : Int) = 19 then (if 18 < (t127.length : Int) then (if (rd t127 18) = 4 then ((wire_Prefix.f k ([] : List Int) 167772160 8).bind fun t131 => (some ((strOfNums t131).toList == ([8, 10] : List UInt8)))) else (some false)) else (none)) else (some false))
theorem whirligiglaw10_lives.mono : ∀ k, LeO (whirligiglaw10_lives.f k ) (whirligiglaw10_lives.f (k + 1) ) := by
  intro  k
  unfold whirligiglaw10_lives.f
  repeat' first
      | (with_reducible exact wire_Prefix.mono _ _ _ _)
      | (with_reducible exact LeO.refl _)
      | (with_reducible exact LeO.none _)
      | (with_reducible refine LeO.ite ?_ ?_)
      | (with_reducible refine LeO.bind ?_ (fun _ => ?_))
      | exact wire_Prefix.mono _ _ _ _
      | exact LeO.none _
      | refine LeO.ite ?_ ?_
      | refine LeO.bind ?_ (fun _ => ?_)
set_option maxHeartbeats 8000000 in
set_option maxRecDepth 100000 in
theorem whirligiglaw10_lives.calls (k : Nat)  (r : Bool) (w : World) (h : whirligiglaw10_lives.f k  = some r) :
    Calls Try.prog 9 #[] w fun e w' => e = .returned (.bool r) ∧ Below w.heap.size w w' := by
  have hu25 := Try.underlying25; have HB := Aside0.mk (Below.refl w.heap.size w); have H : ((wire_Alive.f).bind fun t127 => (if (t127.length : Int) = 19 then (if 18 < (t127.length : Int) then (if (rd t127 18) = 4 then ((wire_Prefix.f k ([] : List Int) 167772160 8).bind fun t131 => (some ((strOfNums t131).toList == ([8, 10] : List UInt8)))) else (some false)) else (none)) else (some false))) = some r := h; clear h; replace H := Option.bind_eq_some_iff.mp H; obtain ⟨t127, A10, H⟩ := H; replace H : (if (t127.length : Int) = 19 then (if 18 < (t127.length : Int) then (if (rd t127 18) = 4 then ((wire_Prefix.f k ([] : List Int) 167772160 8).bind fun t131 => (some ((strOfNums t131).toList == ([8, 10] : List UInt8)))) else (some false)) else (none)) else (some false)) = some r := H; have A1 := Aside0.mk A10; clear A10
  by_cases c2 : (t127.length : Int) = 19
  · rw [if_pos c2] at H
    have c2b0 : ((t127.length : Int) == 19) = true := beq_iff_eq.mpr c2; have c2b1 : ((t127.length : Int) != 19) = false := bne_eq_false_iff_eq.mpr c2; clear c2
    by_cases c3 : 18 < (t127.length : Int)
    · rw [if_pos c3] at H
      have c3b0 : decide (18 < (t127.length : Int)) = true := decide_eq_true c3; (have c3b1 : decide (18 < t127.length) = true := decide_eq_true (by omega)); clear c3
      by_cases c4 : (rd t127 18) = 4
      · rw [if_pos c4] at H
        have c4b0 : ((rd t127 18) == 4) = true := beq_iff_eq.mpr c4; have c4b1 : ((rd t127 18) != 4) = false := bne_eq_false_iff_eq.mpr c4; clear c4; replace H := Option.bind_eq_some_iff.mp H; obtain ⟨t131, A50, H⟩ := H; replace H : (some ((strOfNums t131).toList == ([8, 10] : List UInt8))) = some r := H; have A5 := Aside0.mk A50; clear A50; obtain rfl := Option.some.inj H
        go_enter Try.func9, Try.ntmps9
        go_wp2_with (first | ((with_reducible refine gate_callee (f := 24) rfl ?_); refine goesL_ (some 2) rfl rfl Try.func24 (by kernel_rfl) rfl #[] rfl (by (try simp only [List.map_toArray, List.map_cons, List.map_nil]); first | done | rfl | (simp only [List.length_drop, List.length_take]; rfl)) ?_; (with_reducible refine (wire_Alive.calls  t127 _ A1.out).mono ?_); rintro e w6 ⟨v128, rfl, ho0, hb⟩; refine ⟨_, rfl, ?_⟩; have n0_ := Aside0.mk (Kd.R_lower ho0 (below_size (by repeat (first | (with_reducible first | exact HB.out | apply bA_ | apply bN_ | apply bD_) | exact HB.out)))); have n1_ := Aside0.mk (below_step (by repeat (first | (with_reducible first | exact HB.out | apply bA_ | apply bN_ | apply bD_) | exact HB.out)) hb); clear HB; have HO129 := n0_; have HB := n1_; clear n0_ n1_; (try clear hb); (try clear ho0); obtain ⟨Ao7, co7, eo7⟩ := Kd.R_slice HO129.out; subst eo7; have p130 : 0 ≤ (18 : Int) := (by omega); have q130 : 18 < (t127.length : Int) := of_decide_eq_true (by assumption); obtain ⟨ad130, e130, hx130_0⟩ := Kd.at_int (Kd.R_reads' HO129.out).2.2 18 p130 q130; (try (injection e130 with e130; replace e130 := e130.symm; subst e130; have e130 : True := trivial)); cases e130; (try simp only [show (18 : Int).toNat = 18 from rfl, Nat.reduceMul, Nat.reduceEqDiff, Go.Addr.add, ↓reduceIte] at hx130_0); have qi130 : (18 < t127.length) = True := eq_true (by omega); (try rw [show ((18 : Int)).toNat = 18 from rfl] at hx130_0); replace p130 := eq_true p130; replace q130 := eq_true q130) | (go_at_call 12; (refine (wire_Prefix.calls k _ _ ([] : List Int) 167772160 8 t131 _ ?side1 ?side2 A5.out).mono ?_); (case side1 => exact Kd.C_nil _ _); (case side2 => exact Nat.le_refl _); rintro e w8 ⟨v132, rfl, ho0, hb⟩; have n0_ := Aside0.mk (Kd.R_elder' (by (with_reducible repeat (first | apply rA_ | apply rN_ | apply rD_)); exact HO129.out) (Kd.R_base ho0) hb); have n1_ := Aside0.mk (Kd.R_lower (Kd.R_new' ho0 (Kd.R_lt (by (with_reducible repeat (first | apply rA_ | apply rN_ | apply rD_)); exact HO129.out))) (below_size (by repeat (first | (with_reducible first | exact HB.out | apply bA_ | apply bN_ | apply bD_) | exact HB.out)))); have n2_ := Aside0.mk (below_step (by repeat (first | (with_reducible first | exact HB.out | apply bA_ | apply bN_ | apply bD_) | exact HB.out)) hb); clear HO129; clear HB; have HO129 := n0_; have HO133 := n1_; have HB := n2_; clear n0_ n1_ n2_; (try clear hb); (try clear ho0); have hcv9 := own_string (P := Try.prog) Try.underlying22 Try.underlying5 Try.underlying9 (Kd.own_of_R HO133.out)))
        go_ret
        exact ⟨by first | rfl | (simp [errW_none, errW_some] <;> rfl) | (simp [*, errW_none, errW_some] <;> rfl), by repeat (first | (with_reducible first | exact HB.out | apply bA_ | apply bN_ | apply bD_) | exact HB.out)⟩
      · rw [if_neg c4] at H
        have c4b0 : ((rd t127 18) == 4) = false := beq_eq_false_iff_ne.mpr c4; have c4b1 : ((rd t127 18) != 4) = true := bne_iff_ne.mpr c4; obtain rfl := Option.some.inj H
        go_enter Try.func9, Try.ntmps9
        go_wp2_with (first | ((with_reducible refine gate_callee (f := 24) rfl ?_); refine goesL_ (some 2) rfl rfl Try.func24 (by kernel_rfl) rfl #[] rfl (by (try simp only [List.map_toArray, List.map_cons, List.map_nil]); first | done | rfl | (simp only [List.length_drop, List.length_take]; rfl)) ?_; (with_reducible refine (wire_Alive.calls  t127 _ A1.out).mono ?_); rintro e w10 ⟨v128, rfl, ho0, hb⟩; refine ⟨_, rfl, ?_⟩; have n0_ := Aside0.mk (Kd.R_lower ho0 (below_size (by repeat (first | (with_reducible first | exact HB.out | apply bA_ | apply bN_ | apply bD_) | exact HB.out)))); have n1_ := Aside0.mk (below_step (by repeat (first | (with_reducible first | exact HB.out | apply bA_ | apply bN_ | apply bD_) | exact HB.out)) hb); clear HB; have HO129 := n0_; have HB := n1_; clear n0_ n1_; (try clear hb); (try clear ho0); obtain ⟨Ao11, co11, eo11⟩ := Kd.R_slice HO129.out; subst eo11; have p130 : 0 ≤ (18 : Int) := (by omega); have q130 : 18 < (t127.length : Int) := of_decide_eq_true (by assumption); obtain ⟨ad130, e130, hx130_0⟩ := Kd.at_int (Kd.R_reads' HO129.out).2.2 18 p130 q130; (try (injection e130 with e130; replace e130 := e130.symm; subst e130; have e130 : True := trivial)); cases e130; (try simp only [show (18 : Int).toNat = 18 from rfl, Nat.reduceMul, Nat.reduceEqDiff, Go.Addr.add, ↓reduceIte] at hx130_0); have qi130 : (18 < t127.length) = True := eq_true (by omega); (try rw [show ((18 : Int)).toNat = 18 from rfl] at hx130_0); replace p130 := eq_true p130; replace q130 := eq_true q130))
        go_ret
        exact ⟨by first | rfl | (simp [errW_none, errW_some] <;> rfl) | (simp [*, errW_none, errW_some] <;> rfl), by repeat (first | (with_reducible first | exact HB.out | apply bA_ | apply bN_ | apply bD_) | exact HB.out)⟩
    · rw [if_neg c3] at H
      exact absurd H (by simp)
  · rw [if_neg c2] at H
    have c2b0 : ((t127.length : Int) == 19) = false := beq_eq_false_iff_ne.mpr c2; have c2b1 : ((t127.length : Int) != 19) = true := bne_iff_ne.mpr c2; obtain rfl := Option.some.inj H
    go_enter Try.func9, Try.ntmps9
    go_wp2_with (first | ((with_reducible refine gate_callee (f := 24) rfl ?_); refine goesL_ (some 2) rfl rfl Try.func24 (by kernel_rfl) rfl #[] rfl (by (try simp only [List.map_toArray, List.map_cons, List.map_nil]); first | done | rfl | (simp only [List.length_drop, List.length_take]; rfl)) ?_; (with_reducible refine (wire_Alive.calls  t127 _ A1.out).mono ?_); rintro e w12 ⟨v128, rfl, ho0, hb⟩; refine ⟨_, rfl, ?_⟩; have n0_ := Aside0.mk (Kd.R_lower ho0 (below_size (by repeat (first | (with_reducible first | exact HB.out | apply bA_ | apply bN_ | apply bD_) | exact HB.out)))); have n1_ := Aside0.mk (below_step (by repeat (first | (with_reducible first | exact HB.out | apply bA_ | apply bN_ | apply bD_) | exact HB.out)) hb); clear HB; have HO129 := n0_; have HB := n1_; clear n0_ n1_; (try clear hb); (try clear ho0); obtain ⟨Ao13, co13, eo13⟩ := Kd.R_slice HO129.out; subst eo13))
    go_ret
    exact ⟨by first | rfl | (simp [errW_none, errW_some] <;> rfl) | (simp [*, errW_none, errW_some] <;> rfl), by repeat (first | (with_reducible first | exact HB.out | apply bA_ | apply bN_ | apply bD_) | exact HB.out)⟩

end Go.Proofs.Ytjmpojfpbhihpaa.P

end
section
namespace Go.Proofs.Ytjmpojfpbhihpaa.P
open Go.RowKit Go.Proofs.YtjmpojfpbhihpaaW.PrintWords Go.Proofs.YtjmpojfpbhihpaaW.PrintLast Go.Proofs.YtjmpojfpbhihpaaW.PrintMore
attribute [local go_sem] max2_int min2_int max_two min_two max_three min_three max_four min_four   -- for this text's walks alone
set_option linter.unusedVariables false
set_option linter.unusedSimpArgs false

def whirligigref09_Few.f (a0_0 : Int) (a0_1 : Int) (a0_2 : Int) (l0_3 : List Int) (l0_4 : List (S102)) (a0_5 : Int) (l0_6 : List Int) : Option (Bool) := if (l0_3.length : Int) ≤ 100 then (if (l0_4.length : Int) ≤ 100 then (some (decide ((l0_6.length : Int) ≤ 100))) else (some false)) else (some false)
set_option maxHeartbeats 8000000 in
set_option maxRecDepth 100000 in
theorem whirligigref09_Few.calls (a0_0 : Int) (a0_1 : Int) (a0_2 : Int) (A0_3 : Option Addr) (c0_3 : Nat) (l0_3 : List Int) (A0_4 : Option Addr) (c0_4 : Nat) (l0_4 : List (S102)) (a0_5 : Int) (A0_6 : Option Addr) (c0_6 : Nat) (l0_6 : List Int) (r : Bool) (w : World) (hr0_3 : Kd.C (Kd.int .i64) w A0_3 l0_3.length l0_3) (hc0_3 : l0_3.length ≤ c0_3) (hr0_4 : Kd.C k102 w A0_4 l0_4.length l0_4) (hc0_4 : l0_4.length ≤ c0_4) (hr0_6 : Kd.C (Kd.int .i64) w A0_6 l0_6.length l0_6) (hc0_6 : l0_6.length ≤ c0_6) (h : whirligigref09_Few.f a0_0 a0_1 a0_2 l0_3 l0_4 a0_5 l0_6 = some r) :
    Calls Try.prog 31 #[.agg #[.int .i64 a0_0, .int .i64 a0_1, .int .i64 a0_2, .slice A0_3 l0_3.length c0_3, .slice A0_4 l0_4.length c0_4, .int .i64 a0_5, .slice A0_6 l0_6.length c0_6]] w fun e w' => e = .returned (.bool r) ∧ Below w.heap.size w w' := by
  have hu41 := Try.underlying41; have HR0_3 := Aside0.mk hr0_3; have HC0_3 := Aside0.mk hc0_3; clear hr0_3 hc0_3; have HR0_4 := Aside0.mk hr0_4; have HC0_4 := Aside0.mk hc0_4; clear hr0_4 hc0_4; have HR0_6 := Aside0.mk hr0_6; have HC0_6 := Aside0.mk hc0_6; clear hr0_6 hc0_6; have HB := Aside0.mk (Below.refl w.heap.size w); have H : (if (l0_3.length : Int) ≤ 100 then (if (l0_4.length : Int) ≤ 100 then (some (decide ((l0_6.length : Int) ≤ 100))) else (some false)) else (some false)) = some r := h; clear h
  by_cases c2 : (l0_3.length : Int) ≤ 100
  · rw [if_pos c2] at H
    have c2b0 : decide ((l0_3.length : Int) ≤ 100) = true := decide_eq_true c2; (have c2b1 : decide (l0_3.length ≤ 100) = true := decide_eq_true (by omega)); clear c2
    by_cases c3 : (l0_4.length : Int) ≤ 100
    · rw [if_pos c3] at H
      have c3b0 : decide ((l0_4.length : Int) ≤ 100) = true := decide_eq_true c3; (have c3b1 : decide (l0_4.length ≤ 100) = true := decide_eq_true (by omega)); clear c3; obtain rfl := Option.some.inj H
      go_enter Try.func31, Try.ntmps31
      go_wp2_with (first | ((with_reducible refine gate_dst (N := 1) rfl ?_); (try (refine gate_guard (by rfl) ?_; dsimp only)); refine box_event ?hg (N := 1) ?hd (cs := #[.int .i64 a0_0, .int .i64 a0_1, .int .i64 a0_2, .slice A0_3 l0_3.length c0_3, .slice A0_4 l0_4.length c0_4, .int .i64 a0_5, .slice A0_6 l0_6.length c0_6]) (t := 41) ?hr ?_; (case hd => rfl); (case hg => rfl); (case hr => first | (go_simp; done) | (go_simp; rfl)); intro gb331 hg w4 hbox hb; have n0_ := Aside0.mk (below_step (by repeat (first | (with_reducible first | exact HB.out | apply bA_ | apply bN_ | apply bD_) | exact HB.out)) hb); have n1_ := Aside0.mk (hbox); have n2_ := Aside0.mk ((by rw [hg]; exact (below_size (by repeat (first | (with_reducible first | exact HB.out | apply bA_ | apply bN_ | apply bD_) | exact HB.out))) : w.heap.size ≤ gb331)); have n3_ := n2_; clear HB; have HB := n0_; have BK331 := n1_; have GW331 := n2_; have GE331 := n3_; clear n0_ n1_ n2_ n3_; clear hb hbox hg; have hcz5_0 := blk_cell BK331.out; have hfz5_0 := blk_frozen BK331.out))
      go_ret
      exact ⟨by first | rfl | (simp [errW_none, errW_some] <;> rfl) | (simp [*, errW_none, errW_some] <;> rfl), by repeat (first | (with_reducible first | exact HB.out | apply bA_ | apply bN_ | apply bD_ | refine below_set ?_ GE331.out) | exact HB.out)⟩
    · rw [if_neg c3] at H
      have c3b0 : decide ((l0_4.length : Int) ≤ 100) = false := decide_eq_false c3; (have c3b1 : decide (l0_4.length ≤ 100) = false := decide_eq_false (by omega)); clear c3; obtain rfl := Option.some.inj H
      go_enter Try.func31, Try.ntmps31
      go_wp2_with (first | ((with_reducible refine gate_dst (N := 1) rfl ?_); (try (refine gate_guard (by rfl) ?_; dsimp only)); refine box_event ?hg (N := 1) ?hd (cs := #[.int .i64 a0_0, .int .i64 a0_1, .int .i64 a0_2, .slice A0_3 l0_3.length c0_3, .slice A0_4 l0_4.length c0_4, .int .i64 a0_5, .slice A0_6 l0_6.length c0_6]) (t := 41) ?hr ?_; (case hd => rfl); (case hg => rfl); (case hr => first | (go_simp; done) | (go_simp; rfl)); intro gb331 hg w6 hbox hb; have n0_ := Aside0.mk (below_step (by repeat (first | (with_reducible first | exact HB.out | apply bA_ | apply bN_ | apply bD_) | exact HB.out)) hb); have n1_ := Aside0.mk (hbox); have n2_ := Aside0.mk ((by rw [hg]; exact (below_size (by repeat (first | (with_reducible first | exact HB.out | apply bA_ | apply bN_ | apply bD_) | exact HB.out))) : w.heap.size ≤ gb331)); have n3_ := n2_; clear HB; have HB := n0_; have BK331 := n1_; have GW331 := n2_; have GE331 := n3_; clear n0_ n1_ n2_ n3_; clear hb hbox hg; have hcz7_0 := blk_cell BK331.out; have hfz7_0 := blk_frozen BK331.out))
      go_ret
      exact ⟨by first | rfl | (simp [errW_none, errW_some] <;> rfl) | (simp [*, errW_none, errW_some] <;> rfl), by repeat (first | (with_reducible first | exact HB.out | apply bA_ | apply bN_ | apply bD_ | refine below_set ?_ GE331.out) | exact HB.out)⟩
  · rw [if_neg c2] at H
    have c2b0 : decide ((l0_3.length : Int) ≤ 100) = false := decide_eq_false c2; (have c2b1 : decide (l0_3.length ≤ 100) = false := decide_eq_false (by omega)); clear c2; obtain rfl := Option.some.inj H
    go_enter Try.func31, Try.ntmps31
    go_wp2_with (first | ((with_reducible refine gate_dst (N := 1) rfl ?_); (try (refine gate_guard (by rfl) ?_; dsimp only)); refine box_event ?hg (N := 1) ?hd (cs := #[.int .i64 a0_0, .int .i64 a0_1, .int .i64 a0_2, .slice A0_3 l0_3.length c0_3, .slice A0_4 l0_4.length c0_4, .int .i64 a0_5, .slice A0_6 l0_6.length c0_6]) (t := 41) ?hr ?_; (case hd => rfl); (case hg => rfl); (case hr => first | (go_simp; done) | (go_simp; rfl)); intro gb331 hg w8 hbox hb; have n0_ := Aside0.mk (below_step (by repeat (first | (with_reducible first | exact HB.out | apply bA_ | apply bN_ | apply bD_) | exact HB.out)) hb); have n1_ := Aside0.mk (hbox); have n2_ := Aside0.mk ((by rw [hg]; exact (below_size (by repeat (first | (with_reducible first | exact HB.out | apply bA_ | apply bN_ | apply bD_) | exact HB.out))) : w.heap.size ≤ gb331)); have n3_ := n2_; clear HB; have HB := n0_; have BK331 := n1_; have GW331 := n2_; have GE331 := n3_; clear n0_ n1_ n2_ n3_; clear hb hbox hg; have hcz9_0 := blk_cell BK331.out; have hfz9_0 := blk_frozen BK331.out))
    go_ret
    exact ⟨by first | rfl | (simp [errW_none, errW_some] <;> rfl) | (simp [*, errW_none, errW_some] <;> rfl), by repeat (first | (with_reducible first | exact HB.out | apply bA_ | apply bN_ | apply bD_ | refine below_set ?_ GE331.out) | exact HB.out)⟩

def whirligiglaw10_few.f (l0_0 : List (S25)) (l0_1 : List (S25)) (a0_2 : Int) (a0_3 : Int) (a0_4 : Int) (l0_5 : List Int) (l0_6 : List (S102)) (a0_7 : Int) (l0_8 : List Int) : Option (Bool) := if (l0_0.length : Int) ≤ 100 then (if (l0_1.length : Int) ≤ 100 then ((whirligigref09_Few.f a0_2 a0_3 a0_4 l0_5 l0_6 a0_7 l0_8).bind fun t333 => (some t333)) else (some false)) else (some false)
set_option maxHeartbeats 8000000 in
set_option maxRecDepth 100000 in
theorem whirligiglaw10_few.calls (A0_0 : Option Addr) (c0_0 : Nat) (l0_0 : List (S25)) (A0_1 : Option Addr) (c0_1 : Nat) (l0_1 : List (S25)) (a0_2 : Int) (a0_3 : Int) (a0_4 : Int) (A0_5 : Option Addr) (c0_5 : Nat) (l0_5 : List Int) (A0_6 : Option Addr) (c0_6 : Nat) (l0_6 : List (S102)) (a0_7 : Int) (A0_8 : Option Addr) (c0_8 : Nat) (l0_8 : List Int) (r : Bool) (w : World) (hr0_0 : Kd.C k25 w A0_0 l0_0.length l0_0) (hc0_0 : l0_0.length ≤ c0_0) (hr0_1 : Kd.C k25 w A0_1 l0_1.length l0_1) (hc0_1 : l0_1.length ≤ c0_1) (hr0_5 : Kd.C (Kd.int .i64) w A0_5 l0_5.length l0_5) (hc0_5 : l0_5.length ≤ c0_5) (hr0_6 : Kd.C k102 w A0_6 l0_6.length l0_6) (hc0_6 : l0_6.length ≤ c0_6) (hr0_8 : Kd.C (Kd.int .i64) w A0_8 l0_8.length l0_8) (hc0_8 : l0_8.length ≤ c0_8) (h : whirligiglaw10_few.f l0_0 l0_1 a0_2 a0_3 a0_4 l0_5 l0_6 a0_7 l0_8 = some r) :
    Calls Try.prog 15 #[.agg #[.slice A0_0 l0_0.length c0_0, .slice A0_1 l0_1.length c0_1, .int .i64 a0_2, .int .i64 a0_3, .int .i64 a0_4, .slice A0_5 l0_5.length c0_5, .slice A0_6 l0_6.length c0_6, .int .i64 a0_7, .slice A0_8 l0_8.length c0_8]] w fun e w' => e = .returned (.bool r) ∧ Below w.heap.size w w' := by
  have hu43 := Try.underlying43; have hu41 := Try.underlying41; have HR0_0 := Aside0.mk hr0_0; have HC0_0 := Aside0.mk hc0_0; clear hr0_0 hc0_0; have HR0_1 := Aside0.mk hr0_1; have HC0_1 := Aside0.mk hc0_1; clear hr0_1 hc0_1; have HR0_5 := Aside0.mk hr0_5; have HC0_5 := Aside0.mk hc0_5; clear hr0_5 hc0_5; have HR0_6 := Aside0.mk hr0_6; have HC0_6 := Aside0.mk hc0_6; clear hr0_6 hc0_6; have HR0_8 := Aside0.mk hr0_8; have HC0_8 := Aside0.mk hc0_8; clear hr0_8 hc0_8; have HB := Aside0.mk (Below.refl w.heap.size w); have H : (if (l0_0.length : Int) ≤ 100 then (if (l0_1.length : Int) ≤ 100 then ((whirligigref09_Few.f a0_2 a0_3 a0_4 l0_5 l0_6 a0_7 l0_8).bind fun t333 => (some t333)) else (some false)) else (some false)) = some r := h; clear h
  by_cases c2 : (l0_0.length : Int) ≤ 100
  · rw [if_pos c2] at H
    have c2b0 : decide ((l0_0.length : Int) ≤ 100) = true := decide_eq_true c2; (have c2b1 : decide (l0_0.length ≤ 100) = true := decide_eq_true (by omega)); clear c2
    by_cases c3 : (l0_1.length : Int) ≤ 100
    · rw [if_pos c3] at H
      have c3b0 : decide ((l0_1.length : Int) ≤ 100) = true := decide_eq_true c3; (have c3b1 : decide (l0_1.length ≤ 100) = true := decide_eq_true (by omega)); clear c3; replace H := Option.bind_eq_some_iff.mp H; obtain ⟨t333, A40, H⟩ := H; replace H : (some t333) = some r := H; have A4 := Aside0.mk A40; clear A40; obtain rfl := Option.some.inj H
      go_enter Try.func15, Try.ntmps15
      go_wp2_with (first | ((with_reducible refine gate_dst (N := 1) rfl ?_); (try (refine gate_guard (by rfl) ?_; dsimp only)); refine box_event ?hg (N := 1) ?hd (cs := #[.slice A0_0 l0_0.length c0_0, .slice A0_1 l0_1.length c0_1, .int .i64 a0_2, .int .i64 a0_3, .int .i64 a0_4, .slice A0_5 l0_5.length c0_5, .slice A0_6 l0_6.length c0_6, .int .i64 a0_7, .slice A0_8 l0_8.length c0_8]) (t := 43) ?hr ?_; (case hd => rfl); (case hg => rfl); (case hr => first | (go_simp; done) | (go_simp; rfl)); intro gb332 hg w5 hbox hb; have n0_ := Aside0.mk (below_step (by repeat (first | (with_reducible first | exact HB.out | apply bA_ | apply bN_ | apply bD_) | exact HB.out)) hb); have n1_ := Aside0.mk (hbox); have n2_ := Aside0.mk ((by rw [hg]; exact (below_size (by repeat (first | (with_reducible first | exact HB.out | apply bA_ | apply bN_ | apply bD_) | exact HB.out))) : w.heap.size ≤ gb332)); have n3_ := n2_; clear HB; have HB := n0_; have BK332 := n1_; have GW332 := n2_; have GE332 := n3_; clear n0_ n1_ n2_ n3_; clear hb hbox hg; have hcz6_0 := blk_cell BK332.out; have hfz6_0 := blk_frozen BK332.out) | (go_at_call 31; (with_reducible refine (whirligigref09_Few.calls a0_2 a0_3 a0_4 _ _ l0_5 _ _ l0_6 a0_7 _ _ l0_8 t333 _ ?side1 ?side2 ?side3 ?side4 ?side5 ?side6 A4.out).mono ?_); (case side1 => repeat (first | exact (Kd.C_below HR0_5.out HB.out) | (with_reducible refine Kd.C_alloc ?_ _) | (with_reducible refine Kd.C_drewN ?_ _) | (with_reducible refine Kd.C_drew ?_))); (case side2 => exact HC0_5.out); (case side3 => repeat (first | exact (Kd.C_below HR0_6.out HB.out) | (with_reducible refine Kd.C_alloc ?_ _) | (with_reducible refine Kd.C_drewN ?_ _) | (with_reducible refine Kd.C_drew ?_))); (case side4 => exact HC0_6.out); (case side5 => repeat (first | exact (Kd.C_below HR0_8.out HB.out) | (with_reducible refine Kd.C_alloc ?_ _) | (with_reducible refine Kd.C_drewN ?_ _) | (with_reducible refine Kd.C_drew ?_))); (case side6 => exact HC0_8.out); rintro e w7 ⟨rfl, hb⟩; have n0_ := Aside0.mk (blk_below (g := gb332) (o := .cells #[.slice A0_0 l0_0.length c0_0, .slice A0_1 l0_1.length c0_1, .int .i64 a0_2, .int .i64 a0_3, .int .i64 a0_4, .slice A0_5 l0_5.length c0_5, .slice A0_6 l0_6.length c0_6, .int .i64 a0_7, .slice A0_8 l0_8.length c0_8] 43 (0, 0)) (by (with_reducible repeat (first | refine blk_drewN ?_ _ | refine blk_drew ?_ | refine blk_alloc ?_ _)); exact BK332.out) hb); have n1_ := Aside0.mk (below_step (by repeat (first | (with_reducible first | exact HB.out | apply bA_ | apply bN_ | apply bD_ | refine below_set ?_ GE332.out) | exact HB.out)) hb); clear BK332; clear HB; have BK332 := n0_; have HB := n1_; clear n0_ n1_; (try clear hb)))
      go_ret
      exact ⟨by first | rfl | (simp [errW_none, errW_some] <;> rfl) | (simp [*, errW_none, errW_some] <;> rfl), by repeat (first | (with_reducible first | exact HB.out | apply bA_ | apply bN_ | apply bD_ | refine below_set ?_ GE332.out) | exact HB.out)⟩
    · rw [if_neg c3] at H
      have c3b0 : decide ((l0_1.length : Int) ≤ 100) = false := decide_eq_false c3; (have c3b1 : decide (l0_1.length ≤ 100) = false := decide_eq_false (by omega)); clear c3; obtain rfl := Option.some.inj H
      go_enter Try.func15, Try.ntmps15
      go_wp2_with (first | ((with_reducible refine gate_dst (N := 1) rfl ?_); (try (refine gate_guard (by rfl) ?_; dsimp only)); refine box_event ?hg (N := 1) ?hd (cs := #[.slice A0_0 l0_0.length c0_0, .slice A0_1 l0_1.length c0_1, .int .i64 a0_2, .int .i64 a0_3, .int .i64 a0_4, .slice A0_5 l0_5.length c0_5, .slice A0_6 l0_6.length c0_6, .int .i64 a0_7, .slice A0_8 l0_8.length c0_8]) (t := 43) ?hr ?_; (case hd => rfl); (case hg => rfl); (case hr => first | (go_simp; done) | (go_simp; rfl)); intro gb332 hg w8 hbox hb; have n0_ := Aside0.mk (below_step (by repeat (first | (with_reducible first | exact HB.out | apply bA_ | apply bN_ | apply bD_) | exact HB.out)) hb); have n1_ := Aside0.mk (hbox); have n2_ := Aside0.mk ((by rw [hg]; exact (below_size (by repeat (first | (with_reducible first | exact HB.out | apply bA_ | apply bN_ | apply bD_) | exact HB.out))) : w.heap.size ≤ gb332)); have n3_ := n2_; clear HB; have HB := n0_; have BK332 := n1_; have GW332 := n2_; have GE332 := n3_; clear n0_ n1_ n2_ n3_; clear hb hbox hg; have hcz9_0 := blk_cell BK332.out; have hfz9_0 := blk_frozen BK332.out))
      go_ret
      exact ⟨by first | rfl | (simp [errW_none, errW_some] <;> rfl) | (simp [*, errW_none, errW_some] <;> rfl), by repeat (first | (with_reducible first | exact HB.out | apply bA_ | apply bN_ | apply bD_ | refine below_set ?_ GE332.out) | exact HB.out)⟩
  · rw [if_neg c2] at H
    have c2b0 : decide ((l0_0.length : Int) ≤ 100) = false := decide_eq_false c2; (have c2b1 : decide (l0_0.length ≤ 100) = false := decide_eq_false (by omega)); clear c2; obtain rfl := Option.some.inj H
    go_enter Try.func15, Try.ntmps15
    go_wp2_with (first | ((with_reducible refine gate_dst (N := 1) rfl ?_); (try (refine gate_guard (by rfl) ?_; dsimp only)); refine box_event ?hg (N := 1) ?hd (cs := #[.slice A0_0 l0_0.length c0_0, .slice A0_1 l0_1.length c0_1, .int .i64 a0_2, .int .i64 a0_3, .int .i64 a0_4, .slice A0_5 l0_5.length c0_5, .slice A0_6 l0_6.length c0_6, .int .i64 a0_7, .slice A0_8 l0_8.length c0_8]) (t := 43) ?hr ?_; (case hd => rfl); (case hg => rfl); (case hr => first | (go_simp; done) | (go_simp; rfl)); intro gb332 hg w10 hbox hb; have n0_ := Aside0.mk (below_step (by repeat (first | (with_reducible first | exact HB.out | apply bA_ | apply bN_ | apply bD_) | exact HB.out)) hb); have n1_ := Aside0.mk (hbox); have n2_ := Aside0.mk ((by rw [hg]; exact (below_size (by repeat (first | (with_reducible first | exact HB.out | apply bA_ | apply bN_ | apply bD_) | exact HB.out))) : w.heap.size ≤ gb332)); have n3_ := n2_; clear HB; have HB := n0_; have BK332 := n1_; have GW332 := n2_; have GE332 := n3_; clear n0_ n1_ n2_ n3_; clear hb hbox hg; have hcz11_0 := blk_cell BK332.out; have hfz11_0 := blk_frozen BK332.out))
    go_ret
    exact ⟨by first | rfl | (simp [errW_none, errW_some] <;> rfl) | (simp [*, errW_none, errW_some] <;> rfl), by repeat (first | (with_reducible first | exact HB.out | apply bA_ | apply bN_ | apply bD_ | refine below_set ?_ GE332.out) | exact HB.out)⟩

end Go.Proofs.Ytjmpojfpbhihpaa.P

end
section
namespace Go.Proofs.Ytjmpojfpbhihpaa.P
open Go.RowKit Go.Proofs.YtjmpojfpbhihpaaW.PrintWords Go.Proofs.YtjmpojfpbhihpaaW.PrintLast Go.Proofs.YtjmpojfpbhihpaaW.PrintMore
attribute [local go_sem] max2_int min2_int max_two min_two max_three min_three max_four min_four   -- for this text's walks alone
set_option linter.unusedVariables false
set_option linter.unusedSimpArgs false

mutual
def wire_Take.j0 : Nat → List Int → Int → Bool → Option (Int × Int × Int × Int)
  | 0, _, _, _ => none
  | k + 1, x0, x1, x17 => if x17 = true then (some (0, 0, 0, 3)) else (if 0 ≤ x1 then (if x1 < (x0.length : Int) then (if (wrap64 (rd x0 x1)) > 32 then (some (0, 0, 0, 4)) else (if (wrap64 (Int.tdiv (wrap64 ((wrap64 (rd x0 x1)) + 7)) 8)) > (wrap64 ((wrap64 ((x0.length : Int) - x1)) - 1)) then (some (0, 0, 0, 3)) else (wire_Take.l0 k x0 x1 (wrap64 (Int.tdiv (wrap64 ((wrap64 (rd x0 x1)) + 7)) 8)) (wrap64 (Int.tdiv (wrap64 ((wrap64 (rd x0 x1)) + 7)) 8)) 0 0 (wrap64 (rd x0 x1))))) else (none)) else (none))
def wire_Take.l0 : Nat → List Int → Int → Int → Int → Int → Int → Int → Option (Int × Int × Int × Int)
  | 0, _, _, _, _, _, _, _ => none
  | k + 1, x0, x1, x8, x41, x42, x137000, x137001 => if x42 < x41 then (if 0 ≤ (wrap64 ((wrap64 (x1 + 1)) + x42)) then (if (wrap64 ((wrap64 (x1 + 1)) + x42)) < (x0.length : Int) then (if 0 ≤ (wrap64 (24 - (wrap64 (8 * x42)))) then (wire_Take.l0 k x0 x1 x8 x41 (wrap64 (x42 + 1)) (Go.bits .or .u32 x137000 (shl .u32 ((rd x0 (wrap64 ((wrap64 (x1 + 1)) + x42))) % 4294967296) (wrap64 (24 - (wrap64 (8 * x42)))))) x137001) else (none)) else (none)) else (none)) else ((addr_May.f x137000 x137001).bind fun t138 => (if t138 = true then (some (x137000, x137001, wrap64 ((wrap64 (x1 + 1)) + x8), 0)) else (some (0, 0, 0, 4))))
end
def wire_Take.f (k : Nat) (l0 : List Int) (a1 : Int) : Option (Int × Int × Int × Int) := if a1 < 0 then (wire_Take.j0 k l0 a1 true) else (wire_Take.j0 k l0 a1 (decide (a1 ≥ (l0.length : Int))))
def wire_Take.T12 : Bool × List (List Nat × List Nat) := (true, [([], []), ([0], [0]), ([], []), ([], []), ([3], [3]), ([], []), ([4, 5], [4, 5]), ([2, 6], [2, 6]), ([7], [7]), ([8], [8]), ([], []), ([10], [10]), ([11], [11]), ([9, 12], [9, 12]), ([1, 13], [1, 13]), ([0, 1, 2, 3, 4, 5, 6, 7, 8, 9, 10, 11, 12, 13, 14], []), ([15, 14, 0, 1, 2, 3, 4, 5, 6, 7, 8, 9, 10, 11, 12, 13, 14], [14, 15])])
def wire_Take.B12 : List Nat := [0, 1, 0, 0, 8, 0, 56, 124, 252, 508, 0, 1024, 3072, 8188, 16383, 32767, 65535]
theorem wire_Take.tab12 : rtab .any (opsOf Try.f10 12) = wire_Take.T12 := by kernel_rfl
theorem wire_Take.bits12 : waitsOk wire_Take.T12.2 wire_Take.B12 = true := by kernel_rfl
theorem k74b5.b2 {W : World} {g : Nat} {v0 v1 : Value} {t : TypeId} (h : W.heap[g]? = some (.cells #[v0, v1] t (0, 0))) {R : Prop} (r : R) : W.cell? ⟨g, 0, none⟩ = some v0 ∧ W.cell? ⟨g, 1, none⟩ = some v1 ∧ R :=
  ⟨(blk_cell h 0).trans rfl, (blk_cell h 1).trans rfl, r⟩
set_option maxHeartbeats 8000000 in
set_option maxRecDepth 100000 in
theorem wire_Take.calls (k : Nat) (A0 : Option Addr) (c0 : Nat) (l0 : List Int) (a1 : Int) (r1 : Int) (r2 : Int) (r3 : Int) (r4 : Int) (w : World) (hr0 : Kd.C (Kd.int .u8) w A0 l0.length l0) (hc0 : l0.length ≤ c0) (h : wire_Take.f k l0 a1 = some (r1, r2, r3, r4)) :
  Calls Try.prog 10 #[.slice A0 l0.length c0, .int .i64 a1] w fun e w' => e = .returned (.tuple #[.agg #[.int .u32 r1, .int .i64 r2], .int .i64 r3, .int .i64 r4]) ∧ Below w.heap.size w w' := by
 have hu25 := Try.underlying25; have HR0 := Aside0.mk hr0; have HC0 := Aside0.mk hc0; clear hr0 hc0; have HB := Aside0.mk (Below.refl w.heap.size w); have H : (if a1 < 0 then (wire_Take.j0 k l0 a1 true) else (wire_Take.j0 k l0 a1 (decide (a1 ≥ (l0.length : Int))))) = some (r1, r2, r3, r4) := h; clear h; have HC3 := Aside0.mk H; clear H
 go_enter Try.func10, Try.ntmps10
 go_upto_region 1 with (first | ((with_reducible refine gate_dst (N := 4) rfl ?_); (try (refine gate_guard (by rfl) ?_; dsimp only)); refine box_event ?hg (N := 4) ?hd (cs := #[.int .u32 0, .int .i64 0]) (t := 25) ?hr ?_; (case hd => rfl); (case hg => rfl); (case hr => first | (go_simp; done) | (go_simp; rfl)); intro ad hg w4 hbox hb; have n0_ := Aside0.mk (below_step (by repeat (first | (with_reducible first | exact HB.out | apply bA_ | apply bN_ | apply bD_) | exact HB.out)) hb); have n1_ := Aside0.mk (hbox); have n2_ := Aside0.mk ((by rw [hg]; exact (below_size (by repeat (first | (with_reducible first | exact HB.out | apply bA_ | apply bN_ | apply bD_) | exact HB.out))) : w.heap.size ≤ ad)); have n3_ := n2_; clear HB; have HB := n0_; have aa := n1_; have GW134 := n2_; have af := n3_; clear n0_ n1_ n2_ n3_; clear hb hbox hg))
 (try simp only [Act.put, List.setIfInBounds_toArray, List.set_cons_zero, List.set_cons_succ])
 go_cut [17] (fun v17 wc => ∃ (kq : Nat) (x17_2 : Bool), v17 = .bool x17_2 ∧ Aside0 (wire_Take.j0 kq l0 a1 x17_2 = some (r1, r2, r3, r4)) ∧ Aside0 (kq ≤ k) ∧ Aside0 (wc.heap[ad]? = some (.cells #[.int .u32 0, .int .i64 0] 25 (0, 0))) ∧ Aside0 (Below w.heap.size w wc))
 case first =>
  have H := HC3.out; clear HC3
  by_cases c5 : a1 < 0
  ·rw [if_pos c5] at H
   have c5b0 : decide (a1 < 0) = true := decide_eq_true c5; clear c5; ((first | rw [c5b0] | (simp only [i64_w]; rw [c5b0]) | skip)); have H' := Aside0.mk H; clear H; go_wp2
   go_meet
   case rel => exact ⟨_, (true), (by first | rfl | (simp; done) | (simp [*]; done)), H', ⟨by first | omega | exact Nat.le_refl _⟩, ⟨by (with_reducible repeat (first | refine blk_drewN ?_ _ | refine blk_drew ?_ | refine blk_alloc ?_ _)); exact aa.out⟩, ⟨by repeat (first | (with_reducible first | exact HB.out | apply bA_ | apply bN_ | apply bD_ | refine below_set ?_ af.out) | exact HB.out)⟩⟩
  ·rw [if_neg c5] at H
   have c5b0 : decide (a1 < 0) = false := decide_eq_false c5; clear c5; ((first | rw [c5b0] | (simp only [i64_w]; rw [c5b0]) | skip)); have H' := Aside0.mk H; clear H; go_wp2
   go_meet
   case rel => exact ⟨_, (decide (a1 ≥ (l0.length : Int))), (by first | rfl | (simp; done) | (simp [*]; done)), H', ⟨by first | omega | exact Nat.le_refl _⟩, ⟨by (with_reducible repeat (first | refine blk_drewN ?_ _ | refine blk_drew ?_ | refine blk_alloc ?_ _)); exact aa.out⟩, ⟨by repeat (first | (with_reducible first | exact HB.out | apply bA_ | apply bN_ | apply bD_ | refine below_set ?_ af.out) | exact HB.out)⟩⟩
 case rest =>
  clear HC3; (try clear c1); (try clear p2); (try clear c5); (try clear c5b0); obtain ⟨kq, x17_2, rfl, HA, HJ2, aa, HB⟩ := hcut
  cases kq with
  | zero => exact absurd HA.out (by simp [wire_Take.j0])
  | succ kj2 =>
   have H := HA.out; clear HA; simp only [wire_Take.j0] at H
   by_cases c6 : x17_2 = true
   ·subst c6
    (have H1 : (some (0, 0, 0, 3)) = some (r1, r2, r3, r4) := by rw [if_pos rfl] at H; exact H); clear H; have H := H1; clear H1; simp only [Option.some.injEq, Prod.mk.injEq] at H; obtain ⟨rfl, rfl, rfl, rfl⟩ := H; have hcz7_0 := blk_cell aa.out; have hfz7_0 := blk_frozen aa.out; go_wp2; (refine bodyPost_ret (results_ctt rfl _ _ ad 25 #[.int .u32 0, .int .i64 0] (0, 0) _ rfl (by (with_reducible repeat (first | refine blk_drewN ?_ _ | refine blk_drew ?_ | refine blk_alloc ?_ _)); refine blk_put (cs := #[.int .u32 0, .int .i64 0]) ?_ 1 _ (by first | rfl | (simp; done) | (simp; omega)); (with_reducible repeat (first | refine blk_drewN ?_ _ | refine blk_drew ?_ | refine blk_alloc ?_ _)); refine blk_put (cs := #[.int .u32 0, .int .i64 0]) ?_ 0 _ (by first | rfl | (simp; done) | (simp; omega)); (with_reducible repeat (first | refine blk_drewN ?_ _ | refine blk_drew ?_ | refine blk_alloc ?_ _)); exact aa.out) Try.underlying25 rfl (by kernel_rfl)) rfl ?_); (exact ⟨by first | rfl | (simp [errW_none, errW_some] <;> rfl) | (simp [*, errW_none, errW_some] <;> rfl), by repeat (first | (with_reducible first | exact HB.out | apply bA_ | apply bN_ | apply bD_ | refine below_set ?_ af.out) | exact HB.out)⟩)
   ·replace c6 := Bool.eq_false_iff.mpr c6
    subst c6; have H1 := H; (rw [if_neg (show ¬ (false = true) by decide)] at H1); clear H; have H := H1; clear H1
    by_cases c8 : 0 ≤ a1
    ·rw [if_pos c8] at H
     have c8b0 : decide (0 ≤ a1) = true := decide_eq_true c8; clear c8
     by_cases c9 : a1 < (l0.length : Int)
     ·rw [if_pos c9] at H
      have c9b0 : decide (a1 < (l0.length : Int)) = true := decide_eq_true c9; clear c9
      by_cases c10 : (wrap64 (rd l0 a1)) > 32
      ·rw [if_pos c10] at H
       have c10b0 : decide (32 < (wrap64 (rd l0 a1))) = true := decide_eq_true c10; clear c10; simp only [Option.some.injEq, Prod.mk.injEq] at H; obtain ⟨rfl, rfl, rfl, rfl⟩ := H; (have p135 : 0 ≤ (a1 : Int) := of_decide_eq_true (by assumption)); (have q135 : a1 < (l0.length : Int) := of_decide_eq_true (by assumption)); obtain ⟨ad135, e135, hx135_0⟩ := Kd.at_int HR0.out a1 p135 q135; (try (injection e135 with e135; replace e135 := e135.symm; subst e135; have e135 : True := trivial))
       cases e135
       replace hx135_0 := (HB.out.cell (World.block_lt_of_cell? w _ hx135_0)).trans hx135_0; replace p135 := eq_true p135; replace q135 := eq_true q135
       go_wp2_with (first | ((with_reducible refine gate_dst (N := 7) rfl ?_); (try (refine gate_guard (by rfl) ?_; dsimp only)); refine box_event ?hg (N := 7) ?hd (cs := #[.int .u32 0, .int .i64 0]) (t := 25) ?hr ?_; (case hd => rfl); (case hg => rfl); (case hr => first | (go_simp; done) | (go_simp; rfl)); intro ae hg w11 hbox hb; have n0_ := Aside0.mk (blk_below (g := ad) (by (with_reducible repeat (first | refine blk_drewN ?_ _ | refine blk_drew ?_ | refine blk_alloc ?_ _)); exact aa.out) hb); have n1_ := Aside0.mk (below_step (by repeat (first | (with_reducible first | exact HB.out | apply bA_ | apply bN_ | apply bD_ | refine below_set ?_ af.out) | exact HB.out)) hb); have n2_ := Aside0.mk (hbox); have n3_ := Aside0.mk ((by rw [hg]; exact (below_size (by repeat (first | (with_reducible first | exact HB.out | apply bA_ | apply bN_ | apply bD_ | refine below_set ?_ af.out) | exact HB.out))) : w.heap.size ≤ ae)); have n4_ := n3_; have n5_ := Aside0.mk ((by rw [hg]; exact Nat.ne_of_lt (blk_lt (g := ad) (by (with_reducible repeat (first | refine blk_drewN ?_ _ | refine blk_drew ?_ | refine blk_alloc ?_ _)); exact aa.out)) : ad ≠ ae)); have n6_ := Aside0.mk ((by rw [hg]; exact Nat.ne_of_gt (blk_lt (g := ad) (by (with_reducible repeat (first | refine blk_drewN ?_ _ | refine blk_drew ?_ | refine blk_alloc ?_ _)); exact aa.out)) : ae ≠ ad)); clear aa; clear HB; have aa := n0_; have HB := n1_; have ab := n2_; have GW136 := n3_; have ai := n4_; have ac := n5_; have ag := n6_; clear n0_ n1_ n2_ n3_ n4_ n5_ n6_; clear hb hbox hg; have hnb12 := ag.out; have hnc12 := ac.out; have hcz13_0 := blk_cell ab.out; have hfz13_0 := blk_frozen ab.out; have hcz14_0 := blk_cell aa.out; have hfz14_0 := blk_frozen aa.out))
       (refine bodyPost_ret (results_ctt rfl _ _ ad 25 #[.int .u32 0, .int .i64 0] (0, 0) _ rfl (by (with_reducible repeat (first | refine blk_drewN ?_ _ | refine blk_drew ?_ | refine blk_alloc ?_ _)); refine blk_put (cs := #[.int .u32 0, .int .i64 0]) ?_ 1 _ (by first | rfl | (simp; done) | (simp; omega)); (with_reducible repeat (first | refine blk_drewN ?_ _ | refine blk_drew ?_ | refine blk_alloc ?_ _)); refine blk_put (cs := #[.int .u32 0, .int .i64 0]) ?_ 0 _ (by first | rfl | (simp; done) | (simp; omega)); (with_reducible repeat (first | refine blk_drewN ?_ _ | refine blk_drew ?_ | refine blk_alloc ?_ _)); refine blk_far ?_ ac.out _; (with_reducible repeat (first | refine blk_drewN ?_ _ | refine blk_drew ?_ | refine blk_alloc ?_ _)); refine blk_far ?_ ac.out _; (with_reducible repeat (first | refine blk_drewN ?_ _ | refine blk_drew ?_ | refine blk_alloc ?_ _)); exact aa.out) Try.underlying25 rfl (by kernel_rfl)) rfl ?_); (exact ⟨by first | rfl | (simp [errW_none, errW_some] <;> rfl) | (simp [*, errW_none, errW_some] <;> rfl), by repeat (first | (with_reducible first | exact HB.out | apply bA_ | apply bN_ | apply bD_ | refine below_set ?_ af.out | refine below_set ?_ ai.out) | exact HB.out)⟩)
      ·rw [if_neg c10] at H
       have c10b0 : decide (32 < (wrap64 (rd l0 a1))) = false := decide_eq_false c10; clear c10
       by_cases c15 : (wrap64 (Int.tdiv (wrap64 ((wrap64 (rd l0 a1)) + 7)) 8)) > (wrap64 ((wrap64 ((l0.length : Int) - a1)) - 1))
       ·rw [if_pos c15] at H
        have c15b0 : decide ((wrap64 ((wrap64 ((l0.length : Int) - a1)) - 1)) < (wrap64 (Int.tdiv (wrap64 ((wrap64 (rd l0 a1)) + 7)) 8))) = true := decide_eq_true c15; clear c15; simp only [Option.some.injEq, Prod.mk.injEq] at H; obtain ⟨rfl, rfl, rfl, rfl⟩ := H; (have p135 : 0 ≤ (a1 : Int) := of_decide_eq_true (by assumption)); (have q135 : a1 < (l0.length : Int) := of_decide_eq_true (by assumption)); obtain ⟨ad135, e135, hx135_0⟩ := Kd.at_int HR0.out a1 p135 q135; (try (injection e135 with e135; replace e135 := e135.symm; subst e135; have e135 : True := trivial))
        cases e135
        replace hx135_0 := (HB.out.cell (World.block_lt_of_cell? w _ hx135_0)).trans hx135_0; replace p135 := eq_true p135; replace q135 := eq_true q135
        go_wp2_with (first | ((with_reducible refine gate_dst (N := 7) rfl ?_); (try (refine gate_guard (by rfl) ?_; dsimp only)); refine box_event ?hg (N := 7) ?hd (cs := #[.int .u32 0, .int .i64 0]) (t := 25) ?hr ?_; (case hd => rfl); (case hg => rfl); (case hr => first | (go_simp; done) | (go_simp; rfl)); intro ae hg w16 hbox hb; have n0_ := Aside0.mk (blk_below (g := ad) (by (with_reducible repeat (first | refine blk_drewN ?_ _ | refine blk_drew ?_ | refine blk_alloc ?_ _)); exact aa.out) hb); have n1_ := Aside0.mk (below_step (by repeat (first | (with_reducible first | exact HB.out | apply bA_ | apply bN_ | apply bD_ | refine below_set ?_ af.out) | exact HB.out)) hb); have n2_ := Aside0.mk (hbox); have n3_ := Aside0.mk ((by rw [hg]; exact (below_size (by repeat (first | (with_reducible first | exact HB.out | apply bA_ | apply bN_ | apply bD_ | refine below_set ?_ af.out) | exact HB.out))) : w.heap.size ≤ ae)); have n4_ := n3_; have n5_ := Aside0.mk ((by rw [hg]; exact Nat.ne_of_lt (blk_lt (g := ad) (by (with_reducible repeat (first | refine blk_drewN ?_ _ | refine blk_drew ?_ | refine blk_alloc ?_ _)); exact aa.out)) : ad ≠ ae)); have n6_ := Aside0.mk ((by rw [hg]; exact Nat.ne_of_gt (blk_lt (g := ad) (by (with_reducible repeat (first | refine blk_drewN ?_ _ | refine blk_drew ?_ | refine blk_alloc ?_ _)); exact aa.out)) : ae ≠ ad)); clear aa; clear HB; have aa := n0_; have HB := n1_; have ab := n2_; have GW136 := n3_; have ai := n4_; have ac := n5_; have ag := n6_; clear n0_ n1_ n2_ n3_ n4_ n5_ n6_; clear hb hbox hg; have hnb17 := ag.out; have hnc17 := ac.out; have hcz18_0 := blk_cell ab.out; have hfz18_0 := blk_frozen ab.out; have hcz19_0 := blk_cell aa.out; have hfz19_0 := blk_frozen aa.out))
        (refine bodyPost_ret (results_ctt rfl _ _ ad 25 #[.int .u32 0, .int .i64 0] (0, 0) _ rfl (by (with_reducible repeat (first | refine blk_drewN ?_ _ | refine blk_drew ?_ | refine blk_alloc ?_ _)); refine blk_put (cs := #[.int .u32 0, .int .i64 0]) ?_ 1 _ (by first | rfl | (simp; done) | (simp; omega)); (with_reducible repeat (first | refine blk_drewN ?_ _ | refine blk_drew ?_ | refine blk_alloc ?_ _)); refine blk_put (cs := #[.int .u32 0, .int .i64 0]) ?_ 0 _ (by first | rfl | (simp; done) | (simp; omega)); (with_reducible repeat (first | refine blk_drewN ?_ _ | refine blk_drew ?_ | refine blk_alloc ?_ _)); refine blk_far ?_ ac.out _; (with_reducible repeat (first | refine blk_drewN ?_ _ | refine blk_drew ?_ | refine blk_alloc ?_ _)); refine blk_far ?_ ac.out _; (with_reducible repeat (first | refine blk_drewN ?_ _ | refine blk_drew ?_ | refine blk_alloc ?_ _)); exact aa.out) Try.underlying25 rfl (by kernel_rfl)) rfl ?_); (exact ⟨by first | rfl | (simp [errW_none, errW_some] <;> rfl) | (simp [*, errW_none, errW_some] <;> rfl), by repeat (first | (with_reducible first | exact HB.out | apply bA_ | apply bN_ | apply bD_ | refine below_set ?_ af.out | refine below_set ?_ ai.out) | exact HB.out)⟩)
       ·rw [if_neg c15] at H
        have c15b0 : decide ((wrap64 ((wrap64 ((l0.length : Int) - a1)) - 1)) < (wrap64 (Int.tdiv (wrap64 ((wrap64 (rd l0 a1)) + 7)) 8))) = false := decide_eq_false c15; clear c15; have H' := Aside0.mk H; clear H; (have p135 : 0 ≤ (a1 : Int) := of_decide_eq_true (by assumption)); (have q135 : a1 < (l0.length : Int) := of_decide_eq_true (by assumption)); obtain ⟨ad135, e135, hx135_0⟩ := Kd.at_int HR0.out a1 p135 q135; (try (injection e135 with e135; replace e135 := e135.symm; subst e135; have e135 : True := trivial))
        cases e135
        replace hx135_0 := (HB.out.cell (World.block_lt_of_cell? w _ hx135_0)).trans hx135_0; replace p135 := eq_true p135; replace q135 := eq_true q135
        go_wp2_with (first | ((with_reducible refine gate_dst (N := 7) rfl ?_); (try (refine gate_guard (by rfl) ?_; dsimp only)); refine box_event ?hg (N := 7) ?hd (cs := #[.int .u32 0, .int .i64 0]) (t := 25) ?hr ?_; (case hd => rfl); (case hg => rfl); (case hr => first | (go_simp; done) | (go_simp; rfl)); intro ae hg w20 hbox hb; have n0_ := Aside0.mk (blk_below (g := ad) (by (with_reducible repeat (first | refine blk_drewN ?_ _ | refine blk_drew ?_ | refine blk_alloc ?_ _)); exact aa.out) hb); have n1_ := Aside0.mk (below_step (by repeat (first | (with_reducible first | exact HB.out | apply bA_ | apply bN_ | apply bD_ | refine below_set ?_ af.out) | exact HB.out)) hb); have n2_ := Aside0.mk (hbox); have n3_ := Aside0.mk ((by rw [hg]; exact (below_size (by repeat (first | (with_reducible first | exact HB.out | apply bA_ | apply bN_ | apply bD_ | refine below_set ?_ af.out) | exact HB.out))) : w.heap.size ≤ ae)); have n4_ := n3_; have n5_ := Aside0.mk ((by rw [hg]; exact Nat.ne_of_lt (blk_lt (g := ad) (by (with_reducible repeat (first | refine blk_drewN ?_ _ | refine blk_drew ?_ | refine blk_alloc ?_ _)); exact aa.out)) : ad ≠ ae)); have n6_ := Aside0.mk ((by rw [hg]; exact Nat.ne_of_gt (blk_lt (g := ad) (by (with_reducible repeat (first | refine blk_drewN ?_ _ | refine blk_drew ?_ | refine blk_alloc ?_ _)); exact aa.out)) : ae ≠ ad)); clear aa; clear HB; have aa := n0_; have HB := n1_; have ab := n2_; have GW136 := n3_; have ai := n4_; have ac := n5_; have ag := n6_; clear n0_ n1_ n2_ n3_ n4_ n5_ n6_; clear hb hbox hg; have hnb21 := ag.out; have hnc21 := ac.out; have hcz22_0 := blk_cell ab.out; have hfz22_0 := blk_frozen ab.out))
        go_loopg [42] kj2 (fun kq v42 w' => ∃ (x42_2 : Int) (x137000_2 : Int), v42 = .int .i64 x42_2 ∧ Aside0 (wire_Take.l0 kq l0 a1 (wrap64 (Int.tdiv (wrap64 ((wrap64 (rd l0 a1)) + 7)) 8)) (wrap64 (Int.tdiv (wrap64 ((wrap64 (rd l0 a1)) + 7)) 8)) x42_2 x137000_2 (wrap64 (rd l0 a1)) = some (r1, r2, r3, r4)) ∧ Aside0 (kq ≤ kj2) ∧ Aside0 (w'.heap[ad]? = some (.cells #[.int .u32 0, .int .i64 0] 25 (0, 0))) ∧ Aside0 (w'.heap[ae]? = some (.cells #[.int .u32 x137000_2, .int .i64 (wrap64 (rd l0 a1))] 25 (0, 0))) ∧ Aside0 (Below w.heap.size w w'))
        case atStart => exact ⟨(0), (0), (by first | rfl | (simp; done) | (simp [*]; done)), H', ⟨Nat.le_refl _⟩, ⟨by (with_reducible repeat (first | refine blk_drewN ?_ _ | refine blk_drew ?_ | refine blk_alloc ?_ _)); refine blk_far ?_ ac.out _; (with_reducible repeat (first | refine blk_drewN ?_ _ | refine blk_drew ?_ | refine blk_alloc ?_ _)); refine blk_far ?_ ac.out _; (with_reducible repeat (first | refine blk_drewN ?_ _ | refine blk_drew ?_ | refine blk_alloc ?_ _)); exact aa.out⟩, ⟨by (with_reducible repeat (first | refine blk_drewN ?_ _ | refine blk_drew ?_ | refine blk_alloc ?_ _)); refine blk_put (cs := #[.int .u32 0, .int .i64 0]) ?_ 1 _ (by first | rfl | (simp; done) | (simp; omega)); (with_reducible repeat (first | refine blk_drewN ?_ _ | refine blk_drew ?_ | refine blk_alloc ?_ _)); refine blk_put (cs := #[.int .u32 0, .int .i64 0]) ?_ 0 _ (by first | rfl | (simp; done) | (simp; omega)); (with_reducible repeat (first | refine blk_drewN ?_ _ | refine blk_drew ?_ | refine blk_alloc ?_ _)); exact ab.out⟩, ⟨by repeat (first | (with_reducible first | exact HB.out | apply bA_ | apply bN_ | apply bD_ | refine below_set ?_ af.out | refine below_set ?_ ai.out) | exact HB.out)⟩⟩
        case round =>
         clear H'; (try clear c1); (try clear p1); (try clear q1); (try clear hx1); (try clear c2); (try clear p2); (try clear c5); (try clear c5b0); (try clear c6); (try clear p6); (try clear c8); (try clear c8b0); (try clear c9); (try clear c9b0); (try clear c10); (try clear c10b0); (try clear c12); (try clear p13); (try clear q13); (try clear hx13); (try clear c15); (try clear c15b0); (try clear c17); (try clear c21); (try clear hcz13_0); (try clear hcz14_0); (try clear hcz18_0); (try clear hcz19_0); (try clear hcz22_0); (try clear hcz7_0); (try clear hfz13_0); (try clear hfz14_0); (try clear hfz18_0); (try clear hfz19_0); (try clear hfz22_0); (try clear hfz7_0); (try clear hx135_0); (try clear p135); (try clear p2); (try clear q135); obtain ⟨x42_2, x137000_2, rfl, HA, HK2, aa, ab, HB⟩ := hrel
         cases gk with
         | zero => exact absurd HA.out (by simp [wire_Take.l0])
         | succ k2 =>
          have H := HA.out; clear HA; simp only [wire_Take.l0] at H
          by_cases c23 : x42_2 < (wrap64 (Int.tdiv (wrap64 ((wrap64 (rd l0 a1)) + 7)) 8))
          ·rw [if_pos c23] at H
           have c23b0 : decide (x42_2 < (wrap64 (Int.tdiv (wrap64 ((wrap64 (rd l0 a1)) + 7)) 8))) = true := decide_eq_true c23; clear c23; obtain ⟨ah, hji24⟩ : ∃ j_ : Int, (wrap64 ((wrap64 (a1 + 1)) + x42_2)) = j_ := ⟨_, rfl⟩; (replace H : (if 0 ≤ (ah) then (if (ah) < (l0.length : Int) then (if 0 ≤ (wrap64 (24 - (wrap64 (8 * x42_2)))) then (wire_Take.l0 k2 l0 a1 (wrap64 (Int.tdiv (wrap64 ((wrap64 (rd l0 a1)) + 7)) 8)) (wrap64 (Int.tdiv (wrap64 ((wrap64 (rd l0 a1)) + 7)) 8)) (wrap64 (x42_2 + 1)) (Go.bits .or .u32 x137000_2 (shl .u32 ((rd l0 (ah)) % 4294967296) (wrap64 (24 - (wrap64 (8 * x42_2)))))) (wrap64 (rd l0 a1))) else (none)) else (none)) else (none)) = some (r1, r2, r3, r4) := by first | (rw [hji24] at H; exact H) | (simp only [hji24] at H ⊢; exact H)); have hji24w : (IntKind.i64.wrap ((wrap64 (a1 + 1)) + x42_2)) = ah := (i64_w _).trans hji24
           by_cases c25 : 0 ≤ (ah)
           ·rw [if_pos c25] at H
            have c25b0 : decide (0 ≤ (ah)) = true := decide_eq_true c25; clear c25
            by_cases c26 : (ah) < (l0.length : Int)
            ·rw [if_pos c26] at H
             have c26b0 : decide ((ah) < (l0.length : Int)) = true := decide_eq_true c26; clear c26; obtain ⟨aj, hji27⟩ : ∃ j_ : Int, (wrap64 (24 - (wrap64 (8 * x42_2)))) = j_ := ⟨_, rfl⟩; (replace H : (if 0 ≤ (aj) then (wire_Take.l0 k2 l0 a1 (wrap64 (Int.tdiv (wrap64 ((wrap64 (rd l0 a1)) + 7)) 8)) (wrap64 (Int.tdiv (wrap64 ((wrap64 (rd l0 a1)) + 7)) 8)) (wrap64 (x42_2 + 1)) (Go.bits .or .u32 x137000_2 (shl .u32 ((rd l0 (ah)) % 4294967296) (aj))) (wrap64 (rd l0 a1))) else (none)) = some (r1, r2, r3, r4) := by first | (rw [hji27] at H; exact H) | (simp only [hji27] at H ⊢; exact H)); have hji27w : (IntKind.i64.wrap (24 - (wrap64 (8 * x42_2)))) = aj := (i64_w _).trans hji27
             by_cases c28 : 0 ≤ (aj)
             ·rw [if_pos c28] at H
              have c28b0 := eq_true c28; have c28b1 : decide (0 ≤ (aj)) = true := decide_eq_true c28; clear c28; obtain ⟨ji29, hji29⟩ : ∃ j_ : Int, (shl .u32 ((rd l0 (ah)) % 4294967296) (aj)) = j_ := ⟨_, rfl⟩; (replace H : (wire_Take.l0 k2 l0 a1 (wrap64 (Int.tdiv (wrap64 ((wrap64 (rd l0 a1)) + 7)) 8)) (wrap64 (Int.tdiv (wrap64 ((wrap64 (rd l0 a1)) + 7)) 8)) (wrap64 (x42_2 + 1)) (Go.bits .or .u32 x137000_2 (ji29)) (wrap64 (rd l0 a1))) = some (r1, r2, r3, r4) := by first | (rw [hji29] at H; exact H) | (simp only [hji29] at H ⊢; exact H)); have hji29_ : (IntKind.u32.wrap (((rd l0 (ah)) % 4294967296) * 2 ^ min (aj).toNat 32)) = ji29 := hji29; have hji29z : (aj) ≤ 32 → (IntKind.u32.wrap (((rd l0 (ah)) % 4294967296) * 2 ^ (aj).toNat)) = ji29 := shl_small hji29; (have hji29y : ((((rd l0 (ah)) % 4294967296) * 2 ^ min (aj).toNat 32) % 4294967296) = ji29 := by rw [← hji29_, IntKind.wrap_u32]); have H' := Aside0.mk H; clear H; (try go_wp2); replace aa := Aside0.mk (blk_drew aa.out); replace ab := Aside0.mk (blk_drew ab.out); replace HB := Aside0.mk (below_drew1 HB.out); (have p137 : 0 ≤ ((ah) : Int) := of_decide_eq_true (by assumption)); (have q137 : (ah) < (l0.length : Int) := of_decide_eq_true (by assumption)); obtain ⟨ad137, e137, hx137_0⟩ := Kd.at_int HR0.out (ah) p137 q137; have hw137_0 := hx137_0; (obtain rfl : ad135 = ad137 := (by injection e137)); replace hx137_0 := (HB.out.cell (World.block_lt_of_cell? w _ hx137_0)).trans hx137_0; replace p137 := eq_true p137; replace q137 := eq_true q137; (refine start_ (n := 17) (S := fun w' => w'.cell? ⟨ae, 0, none⟩ = some (.int .u32 x137000_2) ∧ w'.cell? ⟨ae, 1, none⟩ = some (.int .i64 (wrap64 (rd l0 a1))) ∧ w'.cell? (ad135.add ((ah)).toNat) = some (.int .u8 (rd l0 (ah)))) (ds := [16]) #[false, false, false, false, false, false, false, false, false, false, false, false, false, false, false, false, false] (by kernel_rfl) rfl rfl (k74b5.b2 ab.out ((HB.out.cell (World.block_lt_of_cell? w _ hw137_0)).trans hw137_0)) (fun hHeld => ?_); refine with_tabW wire_Take.tab12 wire_Take.bits12 (fun HT_ HW_ => ?_))
              generalize wr.drew = w30 at aa ab HB hx137_0 hHeld ⊢; refine pu_ 0 45 HT_.out ?_; refine pu_ 2 47 HT_.out ?_; refine pu_ 3 48 HT_.out ?_; refine pu_ 4 49 HT_.out ?_; refine pu_ 5 50 HT_.out ?_; refine pu_ 6 51 HT_.out ?_; refine pu_ 7 52 HT_.out ?_; refine pu_ 10 55 HT_.out ?_; refine pu_ 11 56 HT_.out ?_; refine pu_ 12 57 HT_.out ?_; refine tk_ 1 46 HT_.out HW_.out hHeld ?_; refine tk_ 8 53 HT_.out HW_.out hHeld ?_; refine pu_ 9 54 HT_.out ?_; refine pu_ 13 58 HT_.out ?_; refine pu_ 14 59 HT_.out ?_; refine pu_ 15 60 HT_.out ?_; (refine last_ (i := 16) (N := none) (pf 17 17) rfl rfl (one_of HT_.out (by kernel_rfl)) (by decide) (fun K hK => ?_)); have hs31 : w30.cell? ⟨ae, 0, none⟩ = some (.int .u32 x137000_2) := (blk_cell ab.out 0).trans rfl; have hfs31 := blk_frozen ab.out 0; have hns31_0 := ac.out; have hms31_0 := ag.out; (refine skip_ (w1 := ?_) (by rfl) rfl ?_ ?_)
              rotate_left
              ·go_simp
               rfl
              refine hK.out _ _ ?_; clear hK K; (refine done_ (done_of HT_.out (by kernel_rfl)) ?_); (try go_wp2)
              go_roundg k2
              case measure => have := HJ2.out; have := HK2.out; omega
              case rel => exact ⟨(wrap64 (x42_2 + 1)), (Go.bits .or .u32 x137000_2 (ji29)), (by first | rfl | (simp; done) | (simp [*]; done)), H', ⟨by have := HJ2.out; have := HK2.out; omega⟩, ⟨by (with_reducible repeat (first | refine blk_drewN ?_ _ | refine blk_drew ?_ | refine blk_alloc ?_ _)); refine blk_far ?_ ac.out _; (with_reducible repeat (first | refine blk_drewN ?_ _ | refine blk_drew ?_ | refine blk_alloc ?_ _)); exact aa.out⟩, ⟨by (with_reducible repeat (first | refine blk_drewN ?_ _ | refine blk_drew ?_ | refine blk_alloc ?_ _)); refine blk_put (cs := #[.int .u32 x137000_2, .int .i64 (wrap64 (rd l0 a1))]) ?_ 0 _ (by first | rfl | (simp; done) | (simp; omega)); (with_reducible repeat (first | refine blk_drewN ?_ _ | refine blk_drew ?_ | refine blk_alloc ?_ _)); exact ab.out⟩, ⟨by repeat (first | (with_reducible first | exact HB.out | apply bA_ | apply bN_ | apply bD_ | refine below_set ?_ af.out | refine below_set ?_ ai.out) | exact HB.out)⟩⟩
             ·rw [if_neg c28] at H
              exact absurd H (by simp)
            ·rw [if_neg c26] at H
             exact absurd H (by simp)
           ·rw [if_neg c25] at H
            exact absurd H (by simp)
          ·rw [if_neg c23] at H
           have c23b0 : decide (x42_2 < (wrap64 (Int.tdiv (wrap64 ((wrap64 (rd l0 a1)) + 7)) 8))) = false := decide_eq_false c23; clear c23; replace H := Option.bind_eq_some_iff.mp H; obtain ⟨t138, A320, H⟩ := H; (try dsimp only at H); have A32 := Aside0.mk A320; clear A320
           by_cases c33 : t138 = true
           ·subst c33
            have H1 := H; rw [if_pos rfl] at H1; clear H; have H := H1; clear H1; simp only [Option.some.injEq, Prod.mk.injEq] at H; obtain ⟨rfl, rfl, rfl, rfl⟩ := H; have hnb34 := ag.out; have hnc34 := ac.out; have hcz35_0 := blk_cell ab.out; have hfz35_0 := blk_frozen ab.out
            go_wp2_with (first | ((with_reducible refine gate_callee (f := 25) rfl ?_); refine goesL_ (some 63) rfl rfl Try.func25 (by kernel_rfl) rfl #[.agg #[.int .u32 x137000_2, .int .i64 (wrap64 (rd l0 a1))]] rfl (by (try simp only [List.map_toArray, List.map_cons, List.map_nil]); first | done | rfl) ?_; (with_reducible refine (addr_May.calls x137000_2 (wrap64 (rd l0 a1)) true _ A32.out).mono ?_); rintro e w36 ⟨rfl, hb⟩; refine ⟨_, rfl, ?_⟩; replace aa := Aside0.mk (blk_below (g := ad) (by (with_reducible repeat (first | refine blk_drewN ?_ _ | refine blk_drew ?_ | refine blk_alloc ?_ _)); exact aa.out) hb); replace ab := Aside0.mk (blk_below (g := ae) (by (with_reducible repeat (first | refine blk_drewN ?_ _ | refine blk_drew ?_ | refine blk_alloc ?_ _)); exact ab.out) hb); replace HB := Aside0.mk (below_step (by repeat (first | (with_reducible first | exact HB.out | apply bA_ | apply bN_ | apply bD_ | refine below_set ?_ af.out | refine below_set ?_ ai.out) | exact HB.out)) hb); (try clear hb); have hcz37_0 := blk_cell ab.out; have hfz37_0 := blk_frozen ab.out; have hcz38_0 := blk_cell aa.out; have hfz38_0 := blk_frozen aa.out))
            (refine bodyPost_ret (results_ctt rfl _ _ ad 25 #[.int .u32 x137000_2, .int .i64 (wrap64 (rd l0 a1))] (0, 0) _ rfl (by (with_reducible repeat (first | refine blk_drewN ?_ _ | refine blk_drew ?_ | refine blk_alloc ?_ _)); refine blk_put (cs := #[.int .u32 x137000_2, .int .i64 0]) ?_ 1 _ (by first | rfl | (simp; done) | (simp; omega)); (with_reducible repeat (first | refine blk_drewN ?_ _ | refine blk_drew ?_ | refine blk_alloc ?_ _)); refine blk_put (cs := #[.int .u32 0, .int .i64 0]) ?_ 0 _ (by first | rfl | (simp; done) | (simp; omega)); (with_reducible repeat (first | refine blk_drewN ?_ _ | refine blk_drew ?_ | refine blk_alloc ?_ _)); exact aa.out) Try.underlying25 rfl (by kernel_rfl)) rfl ?_); (exact ⟨by first | rfl | (simp [errW_none, errW_some] <;> rfl) | (simp [*, errW_none, errW_some] <;> rfl), by repeat (first | (with_reducible first | exact HB.out | apply bA_ | apply bN_ | apply bD_ | refine below_set ?_ af.out | refine below_set ?_ ai.out) | exact HB.out)⟩)
           ·replace c33 := Bool.eq_false_iff.mpr c33
            subst c33; (have H1 : (some (0, 0, 0, 4)) = some (r1, r2, r3, r4) := by rw [if_neg (show ¬ (false = true) by decide)] at H; exact H); clear H; have H := H1; clear H1; simp only [Option.some.injEq, Prod.mk.injEq] at H; obtain ⟨rfl, rfl, rfl, rfl⟩ := H; have hnb39 := ag.out; have hnc39 := ac.out; have hcz40_0 := blk_cell ab.out; have hfz40_0 := blk_frozen ab.out
            go_wp2_with (first | ((with_reducible refine gate_callee (f := 25) rfl ?_); refine goesL_ (some 63) rfl rfl Try.func25 (by kernel_rfl) rfl #[.agg #[.int .u32 x137000_2, .int .i64 (wrap64 (rd l0 a1))]] rfl (by (try simp only [List.map_toArray, List.map_cons, List.map_nil]); first | done | rfl) ?_; (with_reducible refine (addr_May.calls x137000_2 (wrap64 (rd l0 a1)) false _ A32.out).mono ?_); rintro e w41 ⟨rfl, hb⟩; refine ⟨_, rfl, ?_⟩; replace aa := Aside0.mk (blk_below (g := ad) (by (with_reducible repeat (first | refine blk_drewN ?_ _ | refine blk_drew ?_ | refine blk_alloc ?_ _)); exact aa.out) hb); replace ab := Aside0.mk (blk_below (g := ae) (by (with_reducible repeat (first | refine blk_drewN ?_ _ | refine blk_drew ?_ | refine blk_alloc ?_ _)); exact ab.out) hb); replace HB := Aside0.mk (below_step (by repeat (first | (with_reducible first | exact HB.out | apply bA_ | apply bN_ | apply bD_ | refine below_set ?_ af.out | refine below_set ?_ ai.out) | exact HB.out)) hb); (try clear hb); have hcz42_0 := blk_cell aa.out; have hfz42_0 := blk_frozen aa.out))
            (refine bodyPost_ret (results_ctt rfl _ _ ad 25 #[.int .u32 0, .int .i64 0] (0, 0) _ rfl (by (with_reducible repeat (first | refine blk_drewN ?_ _ | refine blk_drew ?_ | refine blk_alloc ?_ _)); refine blk_put (cs := #[.int .u32 0, .int .i64 0]) ?_ 1 _ (by first | rfl | (simp; done) | (simp; omega)); (with_reducible repeat (first | refine blk_drewN ?_ _ | refine blk_drew ?_ | refine blk_alloc ?_ _)); refine blk_put (cs := #[.int .u32 0, .int .i64 0]) ?_ 0 _ (by first | rfl | (simp; done) | (simp; omega)); (with_reducible repeat (first | refine blk_drewN ?_ _ | refine blk_drew ?_ | refine blk_alloc ?_ _)); exact aa.out) Try.underlying25 rfl (by kernel_rfl)) rfl ?_); (exact ⟨by first | rfl | (simp [errW_none, errW_some] <;> rfl) | (simp [*, errW_none, errW_some] <;> rfl), by repeat (first | (with_reducible first | exact HB.out | apply bA_ | apply bN_ | apply bD_ | refine below_set ?_ af.out | refine below_set ?_ ai.out) | exact HB.out)⟩)
     ·rw [if_neg c9] at H
      exact absurd H (by simp)
    ·rw [if_neg c8] at H
     exact absurd H (by simp)

def whirligigref01_Bit.l0 : Nat → Int → Int → Option (Int)
  | 0, _, _ => none
  | k + 1, x0, x1 => if x1 < 31 then (whirligigref01_Bit.l0 k ((Int.tdiv x0 2) % 4294967296) (wrap64 (x1 + 1))) else (some (Int.tmod x0 2))
def whirligigref01_Bit.f (k : Nat) (a0 : Int) (a1 : Int) : Option (Int) := whirligigref01_Bit.l0 k a0 a1
set_option maxHeartbeats 8000000 in
set_option maxRecDepth 100000 in
theorem whirligigref01_Bit.calls (k : Nat) (a0 : Int) (a1 : Int) (r : Int) (w : World) (h : whirligigref01_Bit.f k a0 a1 = some r) :
    Calls Try.prog 54 #[.int .u32 a0, .int .i64 a1] w fun e w' => e = .returned (.int .u32 r) ∧ Drawn0 w w' := by
  have H : (whirligigref01_Bit.l0 k a0 a1) = some r := h; clear h; have H' := Aside0.mk H; clear H
  go_enter Try.func54, Try.ntmps54
  go_wp2
  go_loopg [0, 1] k (fun kq v0 v1 w' => ∃ (x0_1 : Int) (x1_1 : Int), v0 = .int .u32 x0_1 ∧ v1 = .int .i64 x1_1 ∧ Aside0 (whirligigref01_Bit.l0 kq x0_1 x1_1 = some r) ∧ Aside0 (kq ≤ k) ∧ Drawn0 w w')
  case atStart => exact ⟨(a0), (a1), (by first | rfl | (simp; done) | (simp [*]; done)), (by first | rfl | (simp; done) | (simp [*]; done)), H', ⟨Nat.le_refl _⟩, by repeat (first | exact Drawn0.refl _ | apply Drawn0.step)⟩
  case round =>
    clear H'; (try clear p2); obtain ⟨x0_1, x1_1, rfl, rfl, HA, HK1, ⟨m1, rfl⟩⟩ := hrel
    cases gk with
    | zero => exact absurd HA.out (by simp [whirligigref01_Bit.l0])
    | succ k1 =>
      have H := HA.out; clear HA; simp only [whirligigref01_Bit.l0] at H
      by_cases c3 : x1_1 < 31
      · rw [if_pos c3] at H
        have c3b0 : decide (x1_1 < 31) = true := decide_eq_true c3; clear c3; have H' := Aside0.mk H; clear H; go_wp2
        go_roundg k1
        case measure => have := HK1.out; omega
        case rel => exact ⟨((Int.tdiv x0_1 2) % 4294967296), (wrap64 (x1_1 + 1)), (by first | rfl | (simp; done) | (simp [*]; done)), (by first | rfl | (simp; done) | (simp [*]; done)), H', ⟨by have := HK1.out; omega⟩, by repeat (first | exact Drawn0.refl _ | apply Drawn0.step)⟩
      · rw [if_neg c3] at H
        have c3b0 : decide (x1_1 < 31) = false := decide_eq_false c3; clear c3; obtain rfl := Option.some.inj H; go_wp2
        go_ret
        exact ⟨by first | rfl | (simp; done) | (simp [*]; done), by repeat (first | exact Drawn0.refl _ | apply Drawn0.step)⟩

end Go.Proofs.Ytjmpojfpbhihpaa.P

end
section
namespace Go.Proofs.Ytjmpojfpbhihpaa.P
open Go.RowKit Go.Proofs.YtjmpojfpbhihpaaW.PrintWords Go.Proofs.YtjmpojfpbhihpaaW.PrintLast Go.Proofs.YtjmpojfpbhihpaaW.PrintMore
attribute [local go_sem] max2_int min2_int max_two min_two max_three min_three max_four min_four   -- for this text's walks alone
set_option linter.unusedVariables false
set_option linter.unusedSimpArgs false

mutual
def whirligigref01_May.j0 : Nat → Bool → Int → Int → Option (Bool)
  | 0, _, _, _ => none
  | k + 1, x11, x140000, x140001 => if x11 = true then (some false) else (whirligigref01_May.l0 k x140001 x140000 x140001)
def whirligigref01_May.l0 : Nat → Int → Int → Int → Option (Bool)
  | 0, _, _, _ => none
  | k + 1, x3, x140000, x140001 => if x3 < 32 then ((whirligigref01_Bit.f k x140000 x3).bind fun t140 => (if t140 = 0 then (whirligigref01_May.l0 k (wrap64 (x3 + 1)) x140000 x140001) else (some false))) else (some true)
end
def whirligigref01_May.f (k : Nat) (a0_0 : Int) (a0_1 : Int) : Option (Bool) := if a0_1 < 0 then (whirligigref01_May.j0 k true a0_0 a0_1) else (whirligigref01_May.j0 k (decide (a0_1 > 32)) a0_0 a0_1)
set_option maxHeartbeats 8000000 in
set_option maxRecDepth 100000 in
theorem whirligigref01_May.calls (k : Nat) (a0_0 : Int) (a0_1 : Int) (r : Bool) (w : World) (h : whirligigref01_May.f k a0_0 a0_1 = some r) :
    Calls Try.prog 26 #[.agg #[.int .u32 a0_0, .int .i64 a0_1]] w fun e w' => e = .returned (.bool r) ∧ Below w.heap.size w w' := by
  have hu25 := Try.underlying25; have HB := Aside0.mk (Below.refl w.heap.size w); have H : (if a0_1 < 0 then (whirligigref01_May.j0 k true a0_0 a0_1) else (whirligigref01_May.j0 k (decide (a0_1 > 32)) a0_0 a0_1)) = some r := h; clear h; have HC2 := Aside0.mk H; clear H
  go_enter Try.func26, Try.ntmps26
  go_upto_region 1 with (first | ((with_reducible refine gate_dst (N := 1) rfl ?_); refine box_event ?hg (N := 1) ?hd (cs := #[.int .u32 a0_0, .int .i64 a0_1]) (t := 25) ?hr ?_; (case hd => rfl); (case hg => rfl); (case hr => first | (go_simp; done) | (go_simp; rfl)); intro gb139 hg w3 hbox hb; have n0_ := Aside0.mk (below_step (by repeat (first | (with_reducible first | exact HB.out | apply bA_ | apply bN_ | apply bD_) | exact HB.out)) hb); have n1_ := Aside0.mk (hbox); have n2_ := Aside0.mk ((by rw [hg]; exact (below_size (by repeat (first | (with_reducible first | exact HB.out | apply bA_ | apply bN_ | apply bD_) | exact HB.out))) : w.heap.size ≤ gb139)); have n3_ := n2_; clear HB; have HB := n0_; have BK139 := n1_; have GW139 := n2_; have GE139 := n3_; clear n0_ n1_ n2_ n3_; clear hb hbox hg))
  (try simp only [Act.put, List.setIfInBounds_toArray, List.set_cons_zero, List.set_cons_succ])
  go_cut [11] (fun v11 wc => ∃ (kq : Nat) (x11_1 : Bool), v11 = .bool x11_1 ∧ Aside0 (whirligigref01_May.j0 kq x11_1 a0_0 a0_1 = some r) ∧ Aside0 (kq ≤ k) ∧ Aside0 (wc.heap[gb139]? = some (.cells #[.int .u32 a0_0, .int .i64 a0_1] 25 (0, 0))) ∧ Aside0 (Below w.heap.size w wc))
  case first =>
    have H := HC2.out; clear HC2
    by_cases c4 : a0_1 < 0
    · rw [if_pos c4] at H
      have c4b0 : decide (a0_1 < 0) = true := decide_eq_true c4; clear c4; ((first | rw [c4b0] | (simp only [i64_w, i32_w]; rw [c4b0]) | skip)); have H' := Aside0.mk H; clear H; have hcz5_0 := blk_cell BK139.out; have hfz5_0 := blk_frozen BK139.out; go_wp2
      go_meet
      case rel => exact ⟨_, (true), (by first | rfl | (simp; done) | (simp [*]; done)), H', ⟨by first | omega | exact Nat.le_refl _⟩, ⟨by (with_reducible repeat (first | refine blk_drewN ?_ _ | refine blk_drew ?_ | refine blk_alloc ?_ _)); exact BK139.out⟩, ⟨by repeat (first | (with_reducible first | exact HB.out | apply bA_ | apply bN_ | apply bD_ | refine below_set ?_ GE139.out) | exact HB.out)⟩⟩
    · rw [if_neg c4] at H
      have c4b0 : decide (a0_1 < 0) = false := decide_eq_false c4; clear c4; ((first | rw [c4b0] | (simp only [i64_w, i32_w]; rw [c4b0]) | skip)); have H' := Aside0.mk H; clear H; have hcz6_0 := blk_cell BK139.out; have hfz6_0 := blk_frozen BK139.out; go_wp2
      go_meet
      case rel => exact ⟨_, (decide (a0_1 > 32)), (by first | rfl | (simp; done) | (simp [*]; done)), H', ⟨by first | omega | exact Nat.le_refl _⟩, ⟨by (with_reducible repeat (first | refine blk_drewN ?_ _ | refine blk_drew ?_ | refine blk_alloc ?_ _)); exact BK139.out⟩, ⟨by repeat (first | (with_reducible first | exact HB.out | apply bA_ | apply bN_ | apply bD_ | refine below_set ?_ GE139.out) | exact HB.out)⟩⟩
  case rest =>
    clear HC2; (try clear c2); (try clear p2); (try clear c4); (try clear c4b0); (try clear hcz5_0); (try clear hcz6_0); (try clear hfz5_0); (try clear hfz6_0); obtain ⟨kq, x11_1, rfl, HA, HJ1, BK139, HB⟩ := hcut
    cases kq with
    | zero => exact absurd HA.out (by simp [whirligigref01_May.j0])
    | succ kj1 =>
      have H := HA.out; clear HA; simp only [whirligigref01_May.j0] at H
      by_cases c7 : x11_1 = true
      · subst c7
        (have H1 : (some false) = some r := by rw [if_pos rfl] at H; exact H); clear H; have H := H1; clear H1; obtain rfl := Option.some.inj H; go_wp2
        go_ret
        exact ⟨by first | rfl | (simp [errW_none, errW_some] <;> rfl) | (simp [*, errW_none, errW_some] <;> rfl), by repeat (first | (with_reducible first | exact HB.out | apply bA_ | apply bN_ | apply bD_ | refine below_set ?_ GE139.out) | exact HB.out)⟩
      · replace c7 := Bool.eq_false_iff.mpr c7
        subst c7; (have H1 : (whirligigref01_May.l0 kj1 a0_1 a0_0 a0_1) = some r := by rw [if_neg (show ¬ (false = true) by decide)] at H; exact H); clear H; have H := H1; clear H1; have H' := Aside0.mk H; clear H; have hcz8_0 := blk_cell BK139.out; have hfz8_0 := blk_frozen BK139.out; go_wp2
        go_loopg [3] kj1 (fun kq v3 w' => ∃ (x3_2 : Int), v3 = .int .i64 x3_2 ∧ Aside0 (whirligigref01_May.l0 kq x3_2 a0_0 a0_1 = some r) ∧ Aside0 (kq ≤ kj1) ∧ Aside0 (w'.heap[gb139]? = some (.cells #[.int .u32 a0_0, .int .i64 a0_1] 25 (0, 0))) ∧ Aside0 (Below w.heap.size w w'))
        case atStart => exact ⟨(a0_1), (by first | rfl | (simp; done) | (simp [*]; done)), H', ⟨Nat.le_refl _⟩, ⟨by (with_reducible repeat (first | refine blk_drewN ?_ _ | refine blk_drew ?_ | refine blk_alloc ?_ _)); exact BK139.out⟩, ⟨by repeat (first | (with_reducible first | exact HB.out | apply bA_ | apply bN_ | apply bD_ | refine below_set ?_ GE139.out) | exact HB.out)⟩⟩
        case round =>
          clear H'; (try clear c2); (try clear p2); (try clear c4); (try clear c4b0); (try clear c7); (try clear hcz5_0); (try clear hcz6_0); (try clear hcz8_0); (try clear hfz5_0); (try clear hfz6_0); (try clear hfz8_0); (try clear p2); obtain ⟨x3_2, rfl, HA, HK2, BK139, HB⟩ := hrel
          cases gk with
          | zero => exact absurd HA.out (by simp [whirligigref01_May.l0])
          | succ k2 =>
            have H := HA.out; clear HA; simp only [whirligigref01_May.l0] at H
            by_cases c9 : x3_2 < 32
            · rw [if_pos c9] at H
              have c9b0 : decide (x3_2 < 32) = true := decide_eq_true c9; clear c9; replace H := Option.bind_eq_some_iff.mp H; obtain ⟨t140, A100, H⟩ := H; replace H : (if t140 = 0 then (whirligigref01_May.l0 k2 (wrap64 (x3_2 + 1)) a0_0 a0_1) else (some false)) = some r := H; have A10 := Aside0.mk A100; clear A100
              by_cases c11 : t140 = 0
              · rw [if_pos c11] at H
                have c11b0 : (t140 == 0) = true := beq_iff_eq.mpr c11; have c11b1 : (t140 != 0) = false := bne_eq_false_iff_eq.mpr c11; clear c11; have H' := Aside0.mk H; clear H; have hcz12_0 := blk_cell BK139.out; have hfz12_0 := blk_frozen BK139.out
                go_wp2_with (first | ((with_reducible refine gate_callee (f := 54) rfl ?_); refine goesL_ (some 21) rfl rfl Try.func54 (by kernel_rfl) rfl #[.int .u32 a0_0, .int .i64 x3_2] rfl (by (try simp only [List.map_toArray, List.map_cons, List.map_nil]); first | done | rfl | (simp only [List.length_drop, List.length_take]; rfl)) ?_; (with_reducible refine (whirligigref01_Bit.calls k2 a0_0 x3_2 t140 _ A10.out).mono ?_); rintro e w' ⟨rfl, ⟨nd, rfl⟩⟩; refine ⟨_, rfl, ?_⟩))
                go_roundg k2
                case measure => have := HJ1.out; have := HK2.out; omega
                case rel => exact ⟨(wrap64 (x3_2 + 1)), (by first | rfl | (simp; done) | (simp [*]; done)), H', ⟨by have := HJ1.out; have := HK2.out; omega⟩, ⟨by (with_reducible repeat (first | refine blk_drewN ?_ _ | refine blk_drew ?_ | refine blk_alloc ?_ _)); exact BK139.out⟩, ⟨by repeat (first | (with_reducible first | exact HB.out | apply bA_ | apply bN_ | apply bD_ | refine below_set ?_ GE139.out) | exact HB.out)⟩⟩
              · rw [if_neg c11] at H
                have c11b0 : (t140 == 0) = false := beq_eq_false_iff_ne.mpr c11; have c11b1 : (t140 != 0) = true := bne_iff_ne.mpr c11; obtain rfl := Option.some.inj H; have hcz13_0 := blk_cell BK139.out; have hfz13_0 := blk_frozen BK139.out
                go_wp2_with (first | ((with_reducible refine gate_callee (f := 54) rfl ?_); refine goesL_ (some 21) rfl rfl Try.func54 (by kernel_rfl) rfl #[.int .u32 a0_0, .int .i64 x3_2] rfl (by (try simp only [List.map_toArray, List.map_cons, List.map_nil]); first | done | rfl | (simp only [List.length_drop, List.length_take]; rfl)) ?_; (with_reducible refine (whirligigref01_Bit.calls k2 a0_0 x3_2 t140 _ A10.out).mono ?_); rintro e w' ⟨rfl, ⟨nd, rfl⟩⟩; refine ⟨_, rfl, ?_⟩))
                go_ret
                exact ⟨by first | rfl | (simp [errW_none, errW_some] <;> rfl) | (simp [*, errW_none, errW_some] <;> rfl), by repeat (first | (with_reducible first | exact HB.out | apply bA_ | apply bN_ | apply bD_ | refine below_set ?_ GE139.out) | exact HB.out)⟩
            · rw [if_neg c9] at H
              have c9b0 : decide (x3_2 < 32) = false := decide_eq_false c9; clear c9; obtain rfl := Option.some.inj H; go_wp2
              go_ret
              exact ⟨by first | rfl | (simp [errW_none, errW_some] <;> rfl) | (simp [*, errW_none, errW_some] <;> rfl), by repeat (first | (with_reducible first | exact HB.out | apply bA_ | apply bN_ | apply bD_ | refine below_set ?_ GE139.out) | exact HB.out)⟩

end Go.Proofs.Ytjmpojfpbhihpaa.P

end
section
namespace Go.Proofs.Ytjmpojfpbhihpaa.P
open Go.RowKit Go.Proofs.YtjmpojfpbhihpaaW.PrintWords Go.Proofs.YtjmpojfpbhihpaaW.PrintLast Go.Proofs.YtjmpojfpbhihpaaW.PrintMore
attribute [local go_sem] max2_int min2_int max_two min_two max_three min_three max_four min_four   -- for this text's walks alone
set_option linter.unusedVariables false
set_option linter.unusedSimpArgs false

def whirligigref10_Number.l0 : Nat → Int → Int → ByteArray → Int → Option (ByteArray)
  | 0, _, _, _, _ => none
  | k + 1, x0, x1, x5, x6 => if x6 < x1 then ((some (([(Int.tmod x0 256) % 256] : List Int) : List Int)).bind fun y146 => (if (strOfNums y146).size + x5.size ≤ 9223372036854775807 then (whirligigref10_Number.l0 k (wrap64 (Int.tdiv x0 256)) x1 ((strOfNums y146) ++ x5) (wrap64 (x6 + 1))) else (none))) else (some x5)
def whirligigref10_Number.f (k : Nat) (a0 : Int) (a1 : Int) : Option (ByteArray) := whirligigref10_Number.l0 k a0 a1 (⟨#[]⟩ : ByteArray) 0
set_option maxHeartbeats 8000000 in
set_option maxRecDepth 100000 in
theorem whirligigref10_Number.calls (k : Nat) (a0 : Int) (a1 : Int) (r : ByteArray) (w : World) (h : whirligigref10_Number.f k a0 a1 = some r) :
    Calls Try.prog 29 #[.int .i64 a0, .int .i64 a1] w fun e w' => e = .returned (.string r) ∧ Below w.heap.size w w' := by
  have HB := Aside0.mk (Below.refl w.heap.size w); have H : (whirligigref10_Number.l0 k a0 a1 (⟨#[]⟩ : ByteArray) 0) = some r := h; clear h; have H' := Aside0.mk H; clear H
  go_enter Try.func29, Try.ntmps29
  go_wp2
  go_loopg [0, 5, 6] k (fun kq v0 v5 v6 w' => ∃ (x0_1 : Int) (x5_1 : ByteArray) (x6_1 : Int), v0 = .int .i64 x0_1 ∧ v5 = .string x5_1 ∧ v6 = .int .i64 x6_1 ∧ Aside0 (whirligigref10_Number.l0 kq x0_1 a1 x5_1 x6_1 = some r) ∧ Aside0 (kq ≤ k) ∧ Aside0 (Below w.heap.size w w'))
  case atStart => exact ⟨(a0), ((⟨#[]⟩ : ByteArray)), (0), (by first | rfl | (simp; done) | (simp [*]; done)), (by first | rfl | (simp; done) | (simp [*]; done)), (by first | rfl | (simp; done) | (simp [*]; done)), H', ⟨Nat.le_refl _⟩, ⟨by repeat (first | (with_reducible first | exact HB.out | apply bA_ | apply bN_ | apply bD_) | exact HB.out)⟩⟩
  case round =>
    clear H'; (try clear c2); (try clear p2); obtain ⟨x0_1, x5_1, x6_1, rfl, rfl, rfl, HA, HK1, HB⟩ := hrel
    cases gk with
    | zero => exact absurd HA.out (by simp [whirligigref10_Number.l0])
    | succ k1 =>
      have H := HA.out; clear HA; simp only [whirligigref10_Number.l0] at H
      by_cases c3 : x6_1 < a1
      · rw [if_pos c3] at H
        have c3b0 : decide (x6_1 < a1) = true := decide_eq_true c3; clear c3; obtain ⟨y146, hy146⟩ : ∃ y_ : List Int, y_ = (([(Int.tmod x0_1 256) % 256] : List Int)) := ⟨_, rfl⟩; (replace H : (if (strOfNums y146).size + x5_1.size ≤ 9223372036854775807 then (whirligigref10_Number.l0 k1 (wrap64 (Int.tdiv x0_1 256)) a1 ((strOfNums y146) ++ x5_1) (wrap64 (x6_1 + 1))) else (none)) = some r := by first | (rw [hy146]; with_reducible exact H) | (have H2_ := (Option.bind_some _ _).symm.trans H; rw [hy146]; with_reducible exact H2_) | (have H2_ := (Option.bind_some _ _).symm.trans H; with_reducible exact H2_) | with_reducible exact H | (rw [hy146]; exact H) | exact H); have Ny146 := Aside0.mk hy146; clear hy146
        by_cases c4 : (strOfNums y146).size + x5_1.size ≤ 9223372036854775807
        · rw [if_pos c4] at H
          have c4b0 := eq_true c4; have c4b1 : decide ((strOfNums y146).size + x5_1.size ≤ 9223372036854775807) = true := decide_eq_true c4; (try have c4b2 : (9223372036854775807 < (strOfNums y146).size + x5_1.size) = False := eq_false (Nat.not_lt.2 c4)); have H' := Aside0.mk H; clear H
          go_wp2_with (first | ((with_reducible refine gate_dst (N := 15) rfl ?_); refine Kd.R_lit (Kd.int .u8) _ 5 ?hg (N := 15) ?hd (xs := ([(Int.tmod x0_1 256) % 256] : List Int)) (inner := [.int .u8 ((Int.tmod x0_1 256) % 256)]) (ok := fun _ => True) (okp := fun _ => True) ?hr ?hp (fun _ hk => hk) trivial (Below.refl _ _) (Nat.le_refl _) (by simp) ?_; (case hd => rfl); (case hg => rfl); (case hr => first | (go_simp; done) | (go_simp; rfl)); (case hp => exact (Reps.one (show Kd.M (Kd.int .u8) _ _ _ ((Int.tmod x0_1 256) % 256) [.int .u8 ((Int.tmod x0_1 256) % 256)] from rfl) (Reps.none _ _))); intro v147 w5 ho6 hb hg_ hnew_; clear hg_ hnew_; (first | rw [← Ny146.out] at ho6 | (simp only [Int.reduceToNat] at ho6; rw [← Ny146.out] at ho6)); have n0_ := Aside0.mk (Kd.R_lower ho6 (below_size (by repeat (first | (with_reducible first | exact HB.out | apply bA_ | apply bN_ | apply bD_) | exact HB.out)))); have n1_ := Aside0.mk (below_step (by repeat (first | (with_reducible first | exact HB.out | apply bA_ | apply bN_ | apply bD_) | exact HB.out)) hb); clear HB; have HO148 := n0_; have HB := n1_; clear n0_ n1_; clear hb ho6; have hcv7 := own_string (P := Try.prog) Try.underlying22 Try.underlying5 Try.underlying9 (Kd.own_of_R HO148.out)))
          go_roundg k1
          case measure => have := HK1.out; omega
          case rel => exact ⟨(wrap64 (Int.tdiv x0_1 256)), ((strOfNums y146) ++ x5_1), (wrap64 (x6_1 + 1)), (by first | rfl | (simp; done) | (simp [*]; done)), (by first | rfl | (simp; done) | (simp [*]; done)), (by first | rfl | (simp; done) | (simp [*]; done)), H', ⟨by have := HK1.out; omega⟩, ⟨by repeat (first | (with_reducible first | exact HB.out | apply bA_ | apply bN_ | apply bD_) | exact HB.out)⟩⟩
        · rw [if_neg c4] at H
          exact absurd H (by simp)
      · rw [if_neg c3] at H
        have c3b0 : decide (x6_1 < a1) = false := decide_eq_false c3; clear c3; obtain rfl := Option.some.inj H; go_wp2
        go_ret
        exact ⟨by first | rfl | (simp [errW_none, errW_some] <;> rfl) | (simp [*, errW_none, errW_some] <;> rfl), by repeat (first | (with_reducible first | exact HB.out | apply bA_ | apply bN_ | apply bD_) | exact HB.out)⟩

end Go.Proofs.Ytjmpojfpbhihpaa.P

end
section
namespace Go.Proofs.Ytjmpojfpbhihpaa.P
open Go.RowKit Go.Proofs.YtjmpojfpbhihpaaW.PrintWords Go.Proofs.YtjmpojfpbhihpaaW.PrintLast Go.Proofs.YtjmpojfpbhihpaaW.PrintMore
attribute [local go_sem] max2_int min2_int max_two min_two max_three min_three max_four min_four   -- for this text's walks alone
set_option linter.unusedVariables false
set_option linter.unusedSimpArgs false

def whirligigref10_Prefix.f (k : Nat) (a0_0 : Int) (a0_1 : Int) : Option (ByteArray) := (some (([(a0_1) % 256] : List Int) : List Int)).bind fun y150 => ((whirligigref10_Number.f k (wrap64 (a0_0)) 4).bind fun t153 => (if 0 ≤ (wrap64 (Int.tdiv (wrap64 (a0_1 + 7)) 8)) then (if (wrap64 (Int.tdiv (wrap64 (a0_1 + 7)) 8)) ≤ (t153.size : Int) then (if (strOfNums y150).size + (t153.extract 0 ((wrap64 (Int.tdiv (wrap64 (a0_1 + 7)) 8)) : Int).toNat).size ≤ 9223372036854775807 then (some ((strOfNums y150) ++ (t153.extract 0 ((wrap64 (Int.tdiv (wrap64 (a0_1 + 7)) 8)) : Int).toNat))) else (none)) else (none)) else (none)))
def whirligigref10_Prefix.T1 : Bool × List (List Nat × List Nat) := (true, [([], []), ([0], [0]), ([1], [1]), ([2], [2]), ([3], [3]), ([], []), ([5], [5]), ([6], [6]), ([7], [7]), ([], []), ([9], [9]), ([10], [10]), ([11], [11]), ([8, 12], [8, 12]), ([4, 13], [4, 13]), ([14, 8, 0, 1, 2, 3, 4, 5, 6, 7, 8, 9, 10, 11, 12, 13, 14], [14])])
def whirligigref10_Prefix.B1 : List Nat := [0, 1, 3, 7, 15, 0, 32, 96, 224, 0, 512, 1536, 3584, 8160, 16383, 32767]
theorem whirligigref10_Prefix.tab1 : rtab .any (opsOf Try.f13 1) = whirligigref10_Prefix.T1 := by kernel_rfl
theorem whirligigref10_Prefix.bits1 : waitsOk whirligigref10_Prefix.T1.2 whirligigref10_Prefix.B1 = true := by kernel_rfl
theorem k0427.b2e {W : World} {g : Nat} {v0 v1 : Value} {t : TypeId} (h : W.heap[g]? = some (.cells #[v0, v1] t (0, 0))) : W.cell? ⟨g, 0, none⟩ = some v0 ∧ W.cell? ⟨g, 1, none⟩ = some v1 :=
  ⟨(blk_cell h 0).trans rfl, (blk_cell h 1).trans rfl⟩
@[reducible] def k0427.S0 (g0 : Nat) (v0 v1 : Value) (w' : World) : Prop := w'.cell? ⟨g0, 0, none⟩ = some v0 ∧ w'.cell? ⟨g0, 1, none⟩ = some v1
set_option maxHeartbeats 8000000 in
set_option maxRecDepth 100000 in
theorem whirligigref10_Prefix.calls (k : Nat) (af : Int) (ab : Int) (r : ByteArray) (w : World) (h : whirligigref10_Prefix.f k af ab = some r) :
  Calls Try.prog 13 #[.agg #[.int .u32 af, .int .i64 ab]] w fun e w' => e = .returned (.string r) ∧ Below w.heap.size w w' := by
 have hu25 := Try.underlying25; have HB := Aside0.mk (Below.refl w.heap.size w); have H := h
 unfold whirligigref10_Prefix.f at H
 clear h; obtain ⟨ag, hy150⟩ : ∃ y_ : List Int, y_ = (([(ab) % 256] : List Int)) := ⟨_, rfl⟩; (replace H : ((whirligigref10_Number.f k (wrap64 (af)) 4).bind fun t153 => (if 0 ≤ (wrap64 (Int.tdiv (wrap64 (ab + 7)) 8)) then (if (wrap64 (Int.tdiv (wrap64 (ab + 7)) 8)) ≤ (t153.size : Int) then (if (strOfNums ag).size + (t153.extract 0 ((wrap64 (Int.tdiv (wrap64 (ab + 7)) 8)) : Int).toNat).size ≤ 9223372036854775807 then (some ((strOfNums ag) ++ (t153.extract 0 ((wrap64 (Int.tdiv (wrap64 (ab + 7)) 8)) : Int).toNat))) else (none)) else (none)) else (none))) = some r := by first | (rw [hy150]; with_reducible exact H) | (have H2_ := (Option.bind_some _ _).symm.trans H; rw [hy150]; with_reducible exact H2_) | (have H2_ := (Option.bind_some _ _).symm.trans H; with_reducible exact H2_) | with_reducible exact H | (rw [hy150]; exact H) | exact H); have Ny150 := Aside0.mk hy150; clear hy150; replace H := Option.bind_eq_some_iff.mp H; obtain ⟨t153, A20, H⟩ := H; (try dsimp only at H); have A2 := Aside0.mk A20; clear A20; obtain ⟨ah, hji3⟩ : ∃ j_ : Int, (wrap64 (Int.tdiv (wrap64 (ab + 7)) 8)) = j_ := ⟨_, rfl⟩; (replace H : (if 0 ≤ (ah) then (if (ah) ≤ (t153.size : Int) then (if (strOfNums ag).size + (t153.extract 0 ((ah) : Int).toNat).size ≤ 9223372036854775807 then (some ((strOfNums ag) ++ (t153.extract 0 ((ah) : Int).toNat))) else (none)) else (none)) else (none)) = some r := by first | (rw [hji3] at H; exact H) | (simp only [hji3] at H ⊢; exact H)); (try rw [hji3] at A2); have hji3w : (IntKind.i64.wrap (Int.tdiv (wrap64 (ab + 7)) 8)) = ah := (i64_w _).trans hji3
 by_cases c4 : 0 ≤ (ah)
 ·rw [if_pos c4] at H
  have c4b0 := eq_true c4; have c4b1 : decide (0 ≤ (ah)) = true := decide_eq_true c4; clear c4
  by_cases c5 : (ah) ≤ (t153.size : Int)
  ·rw [if_pos c5] at H
   have c5b0 := eq_true c5; have c5b1 : decide ((ah) ≤ (t153.size : Int)) = true := decide_eq_true c5; clear c5
   by_cases c6 : (strOfNums ag).size + (t153.extract 0 ((ah) : Int).toNat).size ≤ 9223372036854775807
   ·rw [if_pos c6] at H
    have c6b0 := eq_true c6; have c6b1 : decide ((strOfNums ag).size + (t153.extract 0 ((ah) : Int).toNat).size ≤ 9223372036854775807) = true := decide_eq_true c6; (try have c6b2 : (9223372036854775807 < (strOfNums ag).size + (t153.extract 0 ((ah) : Int).toNat).size) = False := eq_false (Nat.not_lt.2 c6)); (try have c6b3 : (9223372036854775807 < (strOfNums ag).size + ((ah) : Int).toNat) = False := eq_false (Nat.not_lt.2 (by have h_ := c6; (try simp only [ByteArray.size_append] at h_); first | exact h_ | (simp only [ByteArray.size_extract] at h_; simp only [decide_eq_true_eq] at *; omega)))); obtain rfl := Option.some.inj H
    go_enter Try.func13, Try.ntmps13
    (try go_wp2_with (first | ((with_reducible refine gate_dst (N := 1) rfl ?_); refine box_event ?hg (N := 1) ?hd (cs := #[.int .u32 af, .int .i64 ab]) (t := 25) ?hr ?_; (case hd => rfl); (case hg => rfl); (case hr => first | (go_simp; done) | (go_simp; rfl)); intro ac hg w7 hbox hb; have n0_ := Aside0.mk (below_step (by repeat (first | (with_reducible first | exact HB.out | apply bA_ | apply bN_ | apply bD_) | exact HB.out)) hb); have n1_ := Aside0.mk (hbox); have n2_ := Aside0.mk ((by rw [hg]; exact (below_size (by repeat (first | (with_reducible first | exact HB.out | apply bA_ | apply bN_ | apply bD_) | exact HB.out))) : w.heap.size ≤ ac)); have n3_ := n2_; clear HB; have HB := n0_; have aa := n1_; have GW149 := n2_; have ae := n3_; clear n0_ n1_ n2_ n3_; clear hb hbox hg))); have n0_ := Aside0.mk (blk_drew aa.out); have n1_ := Aside0.mk (below_drew1 HB.out); clear aa; clear HB; have aa := n0_; have HB := n1_; clear n0_ n1_; (refine start_ (n := 16) (S := k0427.S0 ac (.int .u32 af) (.int .i64 ab)) (ds := []) #[false, false, false, false, false, false, false, false, false, false, false, false, false, false, false, false] (by kernel_rfl) rfl rfl (k0427.b2e aa.out) (fun hHeld => ?_); refine with_tabW whirligigref10_Prefix.tab1 whirligigref10_Prefix.bits1 (fun HT_ HW_ => ?_)); generalize w7.drew = w8 at aa HB hHeld ⊢; refine pu_ 0 3 HT_.out ?_; refine pu_ 5 8 HT_.out ?_; refine pu_ 9 12 HT_.out ?_; refine tk_ 1 4 HT_.out HW_.out hHeld ?_; refine pu_ 2 5 HT_.out ?_; refine tk_ 6 9 HT_.out HW_.out hHeld ?_; refine pu_ 7 10 HT_.out ?_; refine tk_ 10 13 HT_.out HW_.out hHeld ?_; refine pu_ 11 14 HT_.out ?_; refine pu_ 12 15 HT_.out ?_
    refine join_ (σ := Value) 2 (pf 16 14) (fun s_ => [(6, s_), (7, .string (strOfNums ag)), (11, .string t153), (16, .string (t153.extract 0 ((ah) : Int).toNat))]) (fun s_ w' => (w'.cell? ⟨ac, 0, none⟩ = some (.int .u32 af) ∧ w'.cell? ⟨ac, 1, none⟩ = some (.int .i64 ab)) ∧ (Kd.R (Kd.int .u8) 5 w' w.heap.size (fun _ => True) s_ ag) ∧ (w'.heap[ac]? = some (.cells #[.int .u32 af, .int .i64 ab] 25 (0, 0))) ∧ (Below w.heap.size w w')) ?_ ?_
    rotate_left
    ·intro hCont
     refine two_ (i := 3) (j := 8) (Ni := some 6) (Nj := some 11) #[true, true, true, true, false, true, true, true, false, true, true, true, true, false, false, false] #[true, true, true, false, false, true, true, true, true, true, true, true, true, false, false, false] rfl rfl rfl rfl (two_of HT_.out (by kernel_rfl)) (by decide) (by decide) (fun K hK => ?_) (fun K hK => ?_)
     ·skip
      (refine Kd.R_lit_step (Kd.int .u8) _ 5 ?hg (N := 6) ?hd (xs := ([(ab) % 256] : List Int)) (inner := [.int .u8 ((ab) % 256)]) (ok := fun _ => True) (okp := fun _ => True) ?hr ?hp (fun _ hk => hk) trivial (Below.refl _ _) (Nat.le_refl _) (by simp) ?_; (case hd => rfl); (case hg => rfl); (case hr => first | (go_simp; done) | (go_simp; rfl)); (case hp => exact (Reps.one (show Kd.M (Kd.int .u8) _ _ _ ((ab) % 256) [.int .u8 ((ab) % 256)] from rfl) (Reps.none _ _)))); intro v151 w9 ho10 hb hg_ hnew_; clear hg_ hnew_; ((first | rw [← Ny150.out] at ho10 | (simp only [Int.reduceToNat] at ho10; rw [← Ny150.out] at ho10))); (have ad := Aside0.mk (Kd.R_lower ho10 (below_size (by repeat (first | (with_reducible first | exact HB.out | apply bA_ | apply bN_ | apply bD_ | refine below_set ?_ ae.out) | exact HB.out))))); (replace aa := Aside0.mk (blk_below (g := ac) (by (with_reducible repeat (first | refine blk_drewN ?_ _ | refine blk_drew ?_ | refine blk_alloc ?_ _)); exact aa.out) hb)); (replace HB := Aside0.mk (below_step (by repeat (first | (with_reducible first | exact HB.out | apply bA_ | apply bN_ | apply bD_ | refine below_set ?_ ae.out) | exact HB.out)) hb)); clear hb ho10; refine hK.out _ _ (k0427.b2e aa.out) (fun hHeld => ?_); clear hK K; refine norm_ (a' := ?_) ?_ ?_
      rotate_left
      ·show Act.put _ (some 6) _ = _
       simp only [Act.put, List.setIfInBounds_toArray, List.set_cons_zero, List.set_cons_succ, i64_w]; rfl
      refine two_ (i := 4) (j := 8) (Ni := some 7) (Nj := some 11) #[true, true, true, true, true, true, true, true, false, true, true, true, true, false, false, false] #[true, true, true, true, false, true, true, true, true, true, true, true, true, false, false, false] rfl rfl rfl rfl (two_of HT_.out (by kernel_rfl)) (by decide) (by decide) (fun K hK => ?_) (fun K hK => ?_)
      ·skip
       have hcv11 := own_string (P := Try.prog) Try.underlying22 Try.underlying5 Try.underlying9 (Kd.own_of_R ad.out); (refine value_ (w1 := ?_) (v := ?_) (by rfl) rfl ?_ ?_)
       rotate_left 2
       ·go_simp
        constructor
        ·rfl
        ·rfl
       clear hcv11; refine hK.out _ _ (k0427.b2e aa.out) (fun hHeld => ?_); clear hK K; refine norm_ (a' := ?_) ?_ ?_
       rotate_left
       ·show Act.put _ (some 7) _ = _
        simp only [Act.put, List.setIfInBounds_toArray, List.set_cons_zero, List.set_cons_succ, i64_w]; rfl
       (refine one_ (i := 8) (N := some 11) (pf 16 13) rfl rfl (one_of HT_.out (by kernel_rfl)) (by decide) (fun K hK => ?_)); (refine goes_ Try.func29 (by kernel_rfl) rfl #[.int .i64 (wrap64 (af)), .int .i64 4] (by rfl) rfl rfl (by (try simp only [List.map_toArray, List.map_cons, List.map_nil]); first | done | rfl) ?_); (with_reducible refine (whirligigref10_Number.calls k (wrap64 (af)) 4 t153 _ A2.out).mono ?_); rintro e w12 ⟨rfl, hb⟩; refine ⟨_, rfl, ?_⟩; (replace ad := Aside0.mk (Kd.R_below (by (with_reducible repeat (first | apply rA_ | apply rN_ | apply rD_)); exact ad.out) hb)); (replace aa := Aside0.mk (blk_below (g := ac) (by (with_reducible repeat (first | refine blk_drewN ?_ _ | refine blk_drew ?_ | refine blk_alloc ?_ _)); exact aa.out) hb)); (replace HB := Aside0.mk (below_step (by repeat (first | (with_reducible first | exact HB.out | apply bA_ | apply bN_ | apply bD_ | refine below_set ?_ ae.out) | exact HB.out)) hb)); (try clear hb); refine hK.out _ _ (k0427.b2e aa.out) (fun hHeld => ?_); clear hK K; refine norm_ (a' := ?_) ?_ ?_
       rotate_left
       ·show Act.put _ (some 11) _ = _
        simp only [Act.put, List.setIfInBounds_toArray, List.set_cons_zero, List.set_cons_succ, i64_w]; rfl
       refine pu_ 13 16 HT_.out ?_; (exact norm_ (by simp only [putAll, Act.put, List.setIfInBounds_toArray, List.set_cons_zero, List.set_cons_succ]) (hCont (v151) _ ⟨hHeld, (by (with_reducible repeat (first | apply rA_ | apply rN_ | apply rD_)); exact ad.out), (by (with_reducible repeat (first | refine blk_drewN ?_ _ | refine blk_drew ?_ | refine blk_alloc ?_ _)); exact aa.out), (by repeat (first | (with_reducible first | exact HB.out | apply bA_ | apply bN_ | apply bD_ | refine below_set ?_ ae.out) | exact HB.out))⟩))
      ·skip
       (refine goes_ Try.func29 (by kernel_rfl) rfl #[.int .i64 (wrap64 (af)), .int .i64 4] (by rfl) rfl rfl (by (try simp only [List.map_toArray, List.map_cons, List.map_nil]); first | done | rfl) ?_); (with_reducible refine (whirligigref10_Number.calls k (wrap64 (af)) 4 t153 _ A2.out).mono ?_); rintro e w11 ⟨rfl, hb⟩; refine ⟨_, rfl, ?_⟩; (replace ad := Aside0.mk (Kd.R_below (by (with_reducible repeat (first | apply rA_ | apply rN_ | apply rD_)); exact ad.out) hb)); (replace aa := Aside0.mk (blk_below (g := ac) (by (with_reducible repeat (first | refine blk_drewN ?_ _ | refine blk_drew ?_ | refine blk_alloc ?_ _)); exact aa.out) hb)); (replace HB := Aside0.mk (below_step (by repeat (first | (with_reducible first | exact HB.out | apply bA_ | apply bN_ | apply bD_ | refine below_set ?_ ae.out) | exact HB.out)) hb)); (try clear hb); refine hK.out _ _ (k0427.b2e aa.out) (fun hHeld => ?_); clear hK K; refine norm_ (a' := ?_) ?_ ?_
       rotate_left
       ·show Act.put _ (some 11) _ = _
        simp only [Act.put, List.setIfInBounds_toArray, List.set_cons_zero, List.set_cons_succ, i64_w]; rfl
       refine pu_ 13 16 HT_.out ?_; (refine one_ (i := 4) (N := some 7) (pf 16 14) rfl rfl (one_of HT_.out (by kernel_rfl)) (by decide) (fun K hK => ?_)); have hcv12 := own_string (P := Try.prog) Try.underlying22 Try.underlying5 Try.underlying9 (Kd.own_of_R ad.out); (refine value_ (w1 := ?_) (v := ?_) (by rfl) rfl ?_ ?_)
       rotate_left 2
       ·go_simp
        constructor
        ·rfl
        ·rfl
       clear hcv12; refine hK.out _ _ (k0427.b2e aa.out) (fun hHeld => ?_); clear hK K; refine norm_ (a' := ?_) ?_ ?_
       rotate_left
       ·show Act.put _ (some 7) _ = _
        simp only [Act.put, List.setIfInBounds_toArray, List.set_cons_zero, List.set_cons_succ, i64_w]; rfl
       exact norm_ (by simp only [putAll, Act.put, List.setIfInBounds_toArray, List.set_cons_zero, List.set_cons_succ]) (hCont (v151) _ ⟨hHeld, (by (with_reducible repeat (first | apply rA_ | apply rN_ | apply rD_)); exact ad.out), (by (with_reducible repeat (first | refine blk_drewN ?_ _ | refine blk_drew ?_ | refine blk_alloc ?_ _)); exact aa.out), (by repeat (first | (with_reducible first | exact HB.out | apply bA_ | apply bN_ | apply bD_ | refine below_set ?_ ae.out) | exact HB.out))⟩)
     ·skip
      (refine goes_ Try.func29 (by kernel_rfl) rfl #[.int .i64 (wrap64 (af)), .int .i64 4] (by rfl) rfl rfl (by (try simp only [List.map_toArray, List.map_cons, List.map_nil]); first | done | rfl) ?_); (with_reducible refine (whirligigref10_Number.calls k (wrap64 (af)) 4 t153 _ A2.out).mono ?_); rintro e w9 ⟨rfl, hb⟩; refine ⟨_, rfl, ?_⟩; (replace aa := Aside0.mk (blk_below (g := ac) (by (with_reducible repeat (first | refine blk_drewN ?_ _ | refine blk_drew ?_ | refine blk_alloc ?_ _)); exact aa.out) hb)); (replace HB := Aside0.mk (below_step (by repeat (first | (with_reducible first | exact HB.out | apply bA_ | apply bN_ | apply bD_ | refine below_set ?_ ae.out) | exact HB.out)) hb)); (try clear hb); refine hK.out _ _ (k0427.b2e aa.out) (fun hHeld => ?_); clear hK K; refine norm_ (a' := ?_) ?_ ?_
      rotate_left
      ·show Act.put _ (some 11) _ = _
       simp only [Act.put, List.setIfInBounds_toArray, List.set_cons_zero, List.set_cons_succ, i64_w]; rfl
      refine pu_ 13 16 HT_.out ?_; (refine one_ (i := 3) (N := some 6) #[true, true, true, true, false, true, true, true, true, true, true, true, true, true, false, false] rfl rfl (one_of HT_.out (by kernel_rfl)) (by decide) (fun K hK => ?_)); (refine Kd.R_lit_step (Kd.int .u8) _ 5 ?hg (N := 6) ?hd (xs := ([(ab) % 256] : List Int)) (inner := [.int .u8 ((ab) % 256)]) (ok := fun _ => True) (okp := fun _ => True) ?hr ?hp (fun _ hk => hk) trivial (Below.refl _ _) (Nat.le_refl _) (by simp) ?_; (case hd => rfl); (case hg => rfl); (case hr => first | (go_simp; done) | (go_simp; rfl)); (case hp => exact (Reps.one (show Kd.M (Kd.int .u8) _ _ _ ((ab) % 256) [.int .u8 ((ab) % 256)] from rfl) (Reps.none _ _)))); intro v151 w10 ho11 hb hg_ hnew_; clear hg_ hnew_; ((first | rw [← Ny150.out] at ho11 | (simp only [Int.reduceToNat] at ho11; rw [← Ny150.out] at ho11))); (have ad := Aside0.mk (Kd.R_lower ho11 (below_size (by repeat (first | (with_reducible first | exact HB.out | apply bA_ | apply bN_ | apply bD_ | refine below_set ?_ ae.out) | exact HB.out))))); (replace aa := Aside0.mk (blk_below (g := ac) (by (with_reducible repeat (first | refine blk_drewN ?_ _ | refine blk_drew ?_ | refine blk_alloc ?_ _)); exact aa.out) hb)); (replace HB := Aside0.mk (below_step (by repeat (first | (with_reducible first | exact HB.out | apply bA_ | apply bN_ | apply bD_ | refine below_set ?_ ae.out) | exact HB.out)) hb)); clear hb ho11; refine hK.out _ _ (k0427.b2e aa.out) (fun hHeld => ?_); clear hK K; refine norm_ (a' := ?_) ?_ ?_
      rotate_left
      ·show Act.put _ (some 6) _ = _
       simp only [Act.put, List.setIfInBounds_toArray, List.set_cons_zero, List.set_cons_succ, i64_w]; rfl
      (refine one_ (i := 4) (N := some 7) (pf 16 14) rfl rfl (one_of HT_.out (by kernel_rfl)) (by decide) (fun K hK => ?_)); have hcv12 := own_string (P := Try.prog) Try.underlying22 Try.underlying5 Try.underlying9 (Kd.own_of_R ad.out); (refine value_ (w1 := ?_) (v := ?_) (by rfl) rfl ?_ ?_)
      rotate_left 2
      ·go_simp
       constructor
       ·rfl
       ·rfl
      clear hcv12; refine hK.out _ _ (k0427.b2e aa.out) (fun hHeld => ?_); clear hK K; refine norm_ (a' := ?_) ?_ ?_
      rotate_left
      ·show Act.put _ (some 7) _ = _
       simp only [Act.put, List.setIfInBounds_toArray, List.set_cons_zero, List.set_cons_succ, i64_w]; rfl
      exact norm_ (by simp only [putAll, Act.put, List.setIfInBounds_toArray, List.set_cons_zero, List.set_cons_succ]) (hCont (v151) _ ⟨hHeld, (by (with_reducible repeat (first | apply rA_ | apply rN_ | apply rD_)); exact ad.out), (by (with_reducible repeat (first | refine blk_drewN ?_ _ | refine blk_drew ?_ | refine blk_alloc ?_ _)); exact aa.out), (by repeat (first | (with_reducible first | exact HB.out | apply bA_ | apply bN_ | apply bD_ | refine below_set ?_ ae.out) | exact HB.out))⟩)
    rintro v151 w13 ⟨hS_, h0_, h1_, h2_⟩; have n0_ : Aside0 (Kd.R (Kd.int .u8) 5 w13 w.heap.size (fun _ => True) v151 ag) := ⟨h0_⟩; have n1_ : Aside0 (w13.heap[ac]? = some (.cells #[.int .u32 af, .int .i64 ab] 25 (0, 0))) := ⟨h1_⟩; have n2_ : Aside0 (Below w.heap.size w w13) := ⟨h2_⟩; clear aa; clear HB; clear h0_ h1_ h2_; have ad := n0_; have aa := n1_; have HB := n2_; clear n0_ n1_ n2_; have hHeld : w13.cell? ⟨ac, 0, none⟩ = some (.int .u32 af) ∧ w13.cell? ⟨ac, 1, none⟩ = some (.int .i64 ab) := hS_; refine norm_ (a' := ?_) ?_ ?_
    rotate_left
    ·simp only [putAll, Act.put, List.setIfInBounds_toArray, List.set_cons_zero, List.set_cons_succ]
     rfl
    refine pu_ 14 17 HT_.out ?_; refine pu_ 15 2 HT_.out ?_; (refine done_ (done_of HT_.out (by kernel_rfl)) ?_); (try go_wp2)
    go_ret
    exact ⟨by first | rfl | (simp [errW_none, errW_some] <;> rfl) | (simp only [← hji3]; first | rfl | (simp [errW_none, errW_some] <;> rfl)) | (simp [*, errW_none, errW_some] <;> rfl), by repeat (first | (with_reducible first | exact HB.out | apply bA_ | apply bN_ | apply bD_ | refine below_set ?_ ae.out) | exact HB.out)⟩
   ·rw [if_neg c6] at H
    exact absurd H (by simp)
  ·rw [if_neg c5] at H
   exact absurd H (by simp)
 ·rw [if_neg c4] at H
  exact absurd H (by simp)

end Go.Proofs.Ytjmpojfpbhihpaa.P

end
section
set_option linter.unusedVariables false
set_option linter.unusedSimpArgs false
namespace Go.Proofs.Ytjmpojfpbhihpaa.P
open Go.RowKit Go.Proofs.YtjmpojfpbhihpaaW.PrintWords Go.Proofs.YtjmpojfpbhihpaaW.PrintLast Go.Proofs.YtjmpojfpbhihpaaW.PrintMore

set_option maxHeartbeats 4000000 in
set_option maxRecDepth 100000 in
theorem cmpf_Comm (fid : Nat) (o : S102 → S102 → Int) (hen : ∀ (args : Array Value) (W : World), (callFunc fid args).run Try.prog W = .ok (.enter fid args) W)
    (hcmp : ∀ (x y : S102) (W : World), Calls Try.prog fid #[.agg #[.int .i64 x.f0, .int .i64 x.f1], .agg #[.int .i64 y.f0, .int .i64 y.f1]] W fun e w' => e = .returned (.int .i64 (o x y)) ∧ Below W.heap.size W w')
    (A0 : Option Addr) (c0 : Nat) (l0 : List S102) (A1 : Option Addr) (c1 : Nat) (l1 : List S102) (w : World) (hr0 : Kd.C k102 w A0 l0.length l0) (hr1 : Kd.C k102 w A1 l1.length l1) :
    Calls Try.prog 105 #[.slice A0 l0.length c0, .slice A1 l1.length c1, .func (.func fid) #[] #[]] w fun e w' => e = .returned (.int .i64 (cmpLst o l0 l1)) ∧ Below w.heap.size w w' := by
  have hlm0 : l0.length ≤ 9223372036854775807 := Kd.C_max hr0
  have hlm1 : l1.length ≤ 9223372036854775807 := Kd.C_max hr1
  have HC := mkHid hcmp
  have HR0 := mkHid hr0
  have HR1 := mkHid hr1
  clear hcmp hr0 hr1
  generalize hD : cmpLst o l0 l1 = D
  have HD := mkHid hD
  clear hD
  go_enter Try.func105, Try.ntmps105
  go_wp2_with fail
  go_loopg [13] l0.length (fun kq v13 wr => ∃ k : Int, v13 = .int .i64 k ∧ 0 ≤ k ∧ k ≤ l0.length ∧ k ≤ l1.length ∧ Hid (k + kq = l0.length) ∧ Hid (cmpLst o (l0.drop k.toNat) (l1.drop k.toNat) = D) ∧ Hid (Below w.heap.size w wr))
  case atStart => exact ⟨0, rfl, by omega, by omega, by omega, by unfold Hid; omega, HD.out, Below.refl _ _⟩
  case round =>
    obtain ⟨k, rfl, k0, kn, kn1, hk, hcl, hB⟩ := hrel
    have hk1 := hk.out
    by_cases hkn : k < l0.length
    · have q1 : decide (k < (l0.length : Int)) = true := decide_eq_true hkn
      obtain ⟨x, hx⟩ : ∃ x, l0[k.toNat]? = some x := ⟨_, List.getElem?_eq_getElem (h := by omega)⟩
      obtain ⟨g, ob, rfl, hg, hcells⟩ := C_at (Kd.C_below HR0.out hB.out) (by decide) (by omega)
      obtain ⟨cs, _, hK, hcc⟩ := hcells _ _ hx
      have e := k102_open hK
      replace e : cs = [.int .i64 x.f0, .int .i64 x.f1] := e
      subst e
      have d0 : wr.cell? ⟨g, ob + k.toNat * 2 + 0, none⟩ = some (.int .i64 x.f0) := hcc 0 _ rfl
      have d1 : wr.cell? ⟨g, ob + k.toNat * 2 + 1, none⟩ = some (.int .i64 x.f1) := hcc 1 _ rfl

      clear hcc hcells hK
      try rw [Nat.add_zero] at d0
      try rw [Nat.mul_one] at d0
      have hdx : l0.drop k.toNat = x :: l0.drop (k.toNat + 1) := by
        obtain ⟨hh, e⟩ := List.getElem?_eq_some_iff.1 hx
        rw [List.drop_eq_getElem_cons hh, e]
      have HDX := mkHid hdx
      clear hx hdx
      by_cases hk2 : k < l1.length
      · have q2 : decide ((l1.length : Int) ≤ k) = false := decide_eq_false (by omega)
        have q2' : decide (k < (l1.length : Int)) = true := decide_eq_true hk2
        obtain ⟨y, hy⟩ : ∃ y, l1[k.toNat]? = some y := ⟨_, List.getElem?_eq_getElem (h := by omega)⟩
        obtain ⟨g2, ob2, rfl, hg2, hcells⟩ := C_at (Kd.C_below HR1.out hB.out) (by decide) (by omega)
        obtain ⟨cs, _, hK, hcc⟩ := hcells _ _ hy
        have e := k102_open hK
        replace e : cs = [.int .i64 y.f0, .int .i64 y.f1] := e
        subst e
        have f0 : wr.cell? ⟨g2, ob2 + k.toNat * 2 + 0, none⟩ = some (.int .i64 y.f0) := hcc 0 _ rfl
        have f1 : wr.cell? ⟨g2, ob2 + k.toNat * 2 + 1, none⟩ = some (.int .i64 y.f1) := hcc 1 _ rfl

        clear hcc hcells hK
        try rw [Nat.add_zero] at f0
        try rw [Nat.mul_one] at f0
        have hdy : l1.drop k.toNat = y :: l1.drop (k.toNat + 1) := by
          obtain ⟨hh, e⟩ := List.getElem?_eq_some_iff.1 hy
          rw [List.drop_eq_getElem_cons hh, e]
        have HDY := mkHid hdy
        have hw1 : IntKind.i64.wrap (k + 1) = k + 1 := IntWalk.i64_in _ (by omega)
        have hne1 : g ≠ wr.heap.size := by omega
        have hne2 : g2 ≠ wr.heap.size := by omega
        clear hy hdy
        have hc := hcl.out
        rw [HDX.out, HDY.out] at hc
        unfold cmpLst at hc
        by_cases h0 : o x y = 0
        · rw [if_neg (by rw [h0]; simp)] at hc
          have HC0 := mkHid hc
          have H0 := mkHid h0
          clear hc h0
          go_wp2_with fail
          refine (HC.out x y _).mono ?_
          rintro e w' ⟨rfl, hb⟩
          have HB2 : Hid (Below w.heap.size w w') := below_step (by repeat (first | exact hB.out | apply below_alloc)) hb
          clear hb
          rw [H0.out]
          go_wp2_with fail
          go_roundg (gk - 1)
          case measure => omega
          case rel =>
            refine ⟨k + 1, rfl, by omega, by omega, by omega, by unfold Hid; omega, ?_, HB2.out⟩
            have e : (k + 1).toNat = k.toNat + 1 := by omega
            show cmpLst o (l0.drop (k + 1).toNat) (l1.drop (k + 1).toNat) = D
            rw [e]; exact HC0.out
        · rw [if_pos h0] at hc
          have HC0 := mkHid hc
          have q3 : (D == 0) = false := by rw [← hc]; simpa using h0
          have q3' : (D != 0) = true := by rw [← hc]; simpa using h0
          clear hc h0
          go_wp2_with fail
          refine (HC.out x y _).mono ?_
          rintro e w' ⟨rfl, hb⟩
          have HB2 : Hid (Below w.heap.size w w') := below_step (by repeat (first | exact hB.out | apply below_alloc)) hb
          clear hb
          rw [HC0.out]
          go_wp2_with fail
          go_ret
          exact ⟨rfl, HB2.out⟩
      · have q2 : decide ((l1.length : Int) ≤ k) = true := decide_eq_true (by omega)
        have hc := hcl.out
        rw [HDX.out, (List.drop_eq_nil_iff.2 (by omega) : l1.drop k.toNat = [])] at hc
        have hc1 : (1 : Int) = D := hc
        have HC1 := mkHid hc1
        clear hc hc1
        go_wp2_with fail
        go_ret
        refine ⟨by rw [← HC1.out]; rfl, ?_⟩
        repeat (first | exact hB.out | apply below_alloc)
    · have q1 : decide (k < (l0.length : Int)) = false := decide_eq_false (by omega)
      have hc := hcl.out
      rw [(List.drop_eq_nil_iff.2 (by omega) : l0.drop k.toNat = [])] at hc
      by_cases hk2 : l0.length < l1.length
      · have q2 : decide (l0.length < l1.length) = true := decide_eq_true hk2
        have q2' : decide ((l0.length : Int) < (l1.length : Int)) = true := decide_eq_true (by omega)
        obtain ⟨y, hy⟩ : ∃ y, l1[k.toNat]? = some y := ⟨_, List.getElem?_eq_getElem (h := by omega)⟩
        obtain ⟨hh, e⟩ := List.getElem?_eq_some_iff.1 hy
        rw [List.drop_eq_getElem_cons hh] at hc
        have hc1 : (-1 : Int) = D := hc
        have HC1 := mkHid hc1
        clear hc hc1 hy e
        go_wp2_with fail
        go_ret
        exact ⟨by rw [← HC1.out]; rfl, hB.out⟩
      · have q2 : decide (l0.length < l1.length) = false := decide_eq_false hk2
        have q2' : decide ((l0.length : Int) < (l1.length : Int)) = false := decide_eq_false (by omega)
        rw [(List.drop_eq_nil_iff.2 (by omega) : l1.drop k.toNat = [])] at hc
        have hc1 : (0 : Int) = D := hc
        have HC1 := mkHid hc1
        clear hc hc1
        go_wp2_with fail
        go_ret
        exact ⟨by rw [← HC1.out]; rfl, hB.out⟩
end Go.Proofs.Ytjmpojfpbhihpaa.P

end
section
set_option linter.unusedVariables false
set_option linter.unusedSimpArgs false
namespace Go.Proofs.Ytjmpojfpbhihpaa.P
open Go.RowKit Go.Proofs.YtjmpojfpbhihpaaW.PrintWords Go.Proofs.YtjmpojfpbhihpaaW.PrintLast Go.Proofs.YtjmpojfpbhihpaaW.PrintMore

set_option maxHeartbeats 2000000 in
set_option maxRecDepth 100000 in
theorem idx_Int (fid : Nat) (cap : Array Value) (p : Int → Bool) (Inv : World → Prop) (hInv : ∀ W W', Inv W → Below W.heap.size W W' → Inv W')
    (hen : ∀ (args : Array Value) (W : World), (callFunc fid args).run Try.prog W = .ok (.enter fid args) W)
    (A : Option Addr) (c : Nat) (l : List Int) (hcl : ∀ x, x ∈ l → ∀ W, Inv W → Calls Try.prog fid (#[.int .i64 x] ++ cap) W fun e w' => e = .returned (.bool (p x)) ∧ Below W.heap.size W w')
    (w : World) (hr : Kd.C (Kd.int .i64) w A l.length l) (hI : Inv w) :
    Calls Try.prog 106 #[.slice A l.length c, .func (.func fid) #[] cap] w fun e w' => e = .returned (.int .i64 (idxB p l)) ∧ Below w.heap.size w w' := by
  have hlm : l.length ≤ 9223372036854775807 := Kd.C_max hr
  have HC := mkHid hcl
  have HR := mkHid hr
  have HI := mkHid hInv
  have HI0 := mkHid hI
  clear hcl hr hInv hI
  go_enter Try.func106, Try.ntmps106
  go_wp2_with fail
  go_loopg [8] l.length (fun kq v8 wr => ∃ k : Int, v8 = .int .i64 k ∧ 0 ≤ k ∧ k ≤ l.length ∧ Hid (k + kq = l.length) ∧ Hid (∀ (i : Nat) (x : Int), i < k.toNat → l[i]? = some x → p x = false) ∧ Hid (Below w.heap.size w wr))
  case atStart => exact ⟨0, rfl, by omega, by omega, by unfold Hid; omega, fun i x hi => by simp at hi, Below.refl _ _⟩
  case round =>
    obtain ⟨k, rfl, k0, kn, hk, hall, hB⟩ := hrel
    have hk1 := hk.out
    by_cases hkn : k < l.length
    · obtain ⟨x, hx⟩ : ∃ x, l[k.toNat]? = some x := ⟨_, List.getElem?_eq_getElem (h := by omega)⟩
      obtain ⟨g, o, rfl, hg, hcells⟩ := C_at (Kd.C_below HR.out hB.out) (by decide) (by omega)
      obtain ⟨cs, _, hK, hcc⟩ := hcells _ _ hx
      have e := id hK
      replace e : cs = [.int .i64 x] := e
      subst e
      have d0 : wr.cell? ⟨g, o + k.toNat * 1 + 0, none⟩ = some (.int .i64 x) := hcc 0 _ rfl

      clear hcc hcells hK
      try rw [Nat.add_zero] at d0
      try rw [Nat.mul_one] at d0
      have q1 : decide (k < (l.length : Int)) = true := decide_eq_true hkn
      have hw1 : IntKind.i64.wrap (k + 1) = k + 1 := IntWalk.i64_in _ (by omega)
      have HX := mkHid hx
      have hIr := mkHid (HI.out _ _ HI0.out hB.out)
      clear hx
      cases hpx : p x with
      | true =>
        have HPX := mkHid hpx
        clear hpx
        go_wp2_with fail
        refine (HC.out x (List.mem_of_getElem? HX.out) _ hIr.out).mono ?_
        rintro e w' ⟨rfl, hb⟩
        have HB2 : Hid (Below w.heap.size w w') := below_step hB.out hb
        clear hb
        rw [HPX.out]
        go_wp2_with fail
        go_ret
        refine ⟨?_, HB2.out⟩
        have := idxB_at p l k.toNat x HX.out HPX.out hall.out
        rw [this]
        have e : ((k.toNat : Nat) : Int) = k := by omega
        rw [e]; rfl
      | false =>
        have HPX := mkHid hpx
        clear hpx
        go_wp2_with fail
        refine (HC.out x (List.mem_of_getElem? HX.out) _ hIr.out).mono ?_
        rintro e w' ⟨rfl, hb⟩
        have HB2 : Hid (Below w.heap.size w w') := below_step hB.out hb
        clear hb
        rw [HPX.out]
        go_wp2_with fail
        go_roundg (gk - 1)
        case measure => omega
        case rel =>
          refine ⟨k + 1, rfl, by omega, by omega, by unfold Hid; omega, fun i y hi hy => ?_, HB2.out⟩
          by_cases hik : i < k.toNat
          · exact hall.out i y hik hy
          · have : i = k.toNat := by omega
            subst this
            rw [HX.out] at hy
            cases hy
            exact HPX.out
    · have q1 : decide (k < (l.length : Int)) = false := decide_eq_false (by omega)
      go_wp2_with fail
      go_ret
      refine ⟨?_, hB.out⟩
      rw [idxB_none p l (fun i x hx => hall.out i x (by have := (List.getElem?_eq_some_iff.1 hx).1; omega) hx)]
      rfl

end Go.Proofs.Ytjmpojfpbhihpaa.P

end
section
set_option linter.unusedVariables false
set_option linter.unusedSimpArgs false
namespace Go.Proofs.Ytjmpojfpbhihpaa.P
open Go.RowKit Go.Proofs.YtjmpojfpbhihpaaW.PrintWords Go.Proofs.YtjmpojfpbhihpaaW.PrintLast Go.Proofs.YtjmpojfpbhihpaaW.PrintMore

set_option maxHeartbeats 2000000 in
set_option maxRecDepth 100000 in
theorem con_Int (fid : Nat) (cap : Array Value) (p : Int → Bool) (Inv : World → Prop) (hInv : ∀ W W', Inv W → Below W.heap.size W W' → Inv W')
    (hen : ∀ (args : Array Value) (W : World), (callFunc fid args).run Try.prog W = .ok (.enter fid args) W)
    (A : Option Addr) (c : Nat) (l : List Int) (hcl : ∀ x, x ∈ l → ∀ W, Inv W → Calls Try.prog fid (#[.int .i64 x] ++ cap) W fun e w' => e = .returned (.bool (p x)) ∧ Below W.heap.size W w')
    (w : World) (hr : Kd.C (Kd.int .i64) w A l.length l) (hI : Inv w) :
    Calls Try.prog 93 #[.slice A l.length c, .func (.func fid) #[] cap] w fun e w' => e = .returned (.bool (l.any p)) ∧ Below w.heap.size w w' := by
  have HI := mkHid (idx_Int fid cap p Inv hInv hen A c l hcl w hr hI)
  clear hcl hr hInv hI hen
  go_enter Try.func93, Try.ntmps93
  go_wp2_with fail
  refine HI.out.mono ?_
  rintro e w' ⟨rfl, hb⟩
  have HB := mkHid hb
  clear hb
  generalize hi : idxB p l = i
  have HE := mkHid hi
  clear hi
  go_wp2_with fail
  go_ret
  refine ⟨?_, HB.out⟩
  rw [← idxB_any p l, HE.out]; rfl
end Go.Proofs.Ytjmpojfpbhihpaa.P

end
section
namespace Go.Proofs.Ytjmpojfpbhihpaa.P
open Go.RowKit Go.Proofs.YtjmpojfpbhihpaaW.PrintWords Go.Proofs.YtjmpojfpbhihpaaW.PrintLast Go.Proofs.YtjmpojfpbhihpaaW.PrintMore
attribute [local go_sem] max2_int min2_int max_two min_two max_three min_three max_four min_four   -- for this text's walks alone
set_option linter.unusedVariables false
set_option linter.unusedSimpArgs false

def cmpI (a b : Int) : Int := if a < b then -1 else if b < a then 1 else 0
def orI (a b : Int) : Int := if a ≠ 0 then a else b
def ordC (x y : S102) : Int := orI (cmpI x.f0 y.f0) (cmpI x.f1 y.f1)
theorem cmpI_is (a b : Int) : cmp_Compare_int.f a b = some (cmpI a b) := by
  unfold cmp_Compare_int.f cmpI
  by_cases h1 : a < b
  · simp [h1, cmp_isNaN_int.f]
  · by_cases h2 : b < a
    · simp [h1, h2, cmp_isNaN_int.f]
    · simp [h1, h2, cmp_isNaN_int.f]
theorem orI_is (a b : Int) : cmp_Or_int.f 4 [a, b] = some (orI a b) := by
  unfold orI
  by_cases h : a = 0
  · by_cases h2 : b = 0 <;> simp [cmp_Or_int.f, cmp_Or_int.l0, rd, h, h2, wrap64]
  · simp [cmp_Or_int.f, cmp_Or_int.l0, rd, h, wrap64]
theorem ordC_is (x y : S102) : comm_order.f 4 x.f0 x.f1 y.f0 y.f1 = some (ordC x y) := by
  unfold comm_order.f ordC
  rw [cmpI_is, Option.bind_some, cmpI_is, Option.bind_some, orI_is, Option.bind_some]
def cmpCL (a b : List S102) : Int := orI (cmpI a.length b.length) (cmpLst ordC a b)
def comm_Compare.f (l0 : List S102) (l1 : List S102) : Option Int := some (cmpCL l0 l1)
set_option maxHeartbeats 2000000 in
set_option maxRecDepth 100000 in
theorem comm_Compare.calls (A0 : Option Addr) (c0 : Nat) (l0 : List S102) (A1 : Option Addr) (c1 : Nat) (l1 : List S102) (r : Int) (w : World) (hr0 : Kd.C k102 w A0 l0.length l0) (hc0 : l0.length ≤ c0) (hr1 : Kd.C k102 w A1 l1.length l1) (hc1 : l1.length ≤ c1) (h : comm_Compare.f l0 l1 = some r) :
    Calls Try.prog 92 #[.slice A0 l0.length c0, .slice A1 l1.length c1] w fun e w' => e = .returned (.int .i64 r) ∧ Below w.heap.size w w' := by
  unfold comm_Compare.f cmpCL at h
  have H := mkHid (Option.some.inj h); (have HF := mkHid (fun W hq0 hq1 => cmpf_Comm 97 ordC (fun _ _ => by go_simp) (fun x y W => comm_order.calls 4 x.f0 x.f1 y.f0 y.f1 _ W (ordC_is x y)) A0 c0 l0 A1 c1 l1 W hq0 hq1)); have HR0 := mkHid hr0; have HR1 := mkHid hr1; have HQ := mkHid (fun W => cmp_Compare_int.calls (l0.length : Int) (l1.length : Int) _ W (cmpI_is _ _)); clear h hr0 hr1; generalize cmpLst ordC l0 l1 = q at *; generalize cmpI (l0.length : Int) (l1.length : Int) = p at *
  go_enter Try.func92, Try.ntmps92
  go_wp2_with fail
  refine (HQ.out _).mono ?_; rintro e w1 ⟨rfl, hb1⟩; (have hb1' : Below w.heap.size w w1 := by first | exact hb1 | exact hb1.below); have HB1 := mkHid hb1'; clear hb1 hb1'
  go_wp2_with fail
  refine (HF.out _ (Kd.C_below HR0.out HB1.out) (Kd.C_below HR1.out HB1.out)).mono ?_; rintro e w2 ⟨rfl, hb2⟩; have HB2 : Hid (Below w.heap.size w w2) := below_step HB1.out hb2; clear hb2
  go_wp2_with fail
  refine (cmp_Or_int.calls 4 _ 2 [p, q] (orI p q) _ ?_ (by simp) (orI_is p q)).mono ?_
  · exact C_lit .i64 _ [p, q] _ (by simp)
  rintro e w3 ⟨rfl, hb3⟩; (have hb3' : Below w.heap.size w w3 := by first | exact below_step (below_alloc HB2.out _) hb3 | exact below_step (below_alloc HB2.out _) hb3.below); have HB3 := mkHid hb3'; clear hb3 hb3'
  go_wp2_with fail
  go_ret
  exact ⟨by rw [← H.out]; rfl, HB3.out⟩

def attr_Compare.f (k : Nat) (a0_0 : Int) (a0_1 : Int) (a0_2 : Int) (l0_3 : List Int) (l0_4 : List (S102)) (a0_5 : Int) (l0_6 : List Int) (a1_0 : Int) (a1_1 : Int) (a1_2 : Int) (l1_3 : List Int) (l1_4 : List (S102)) (a1_5 : Int) (l1_6 : List Int) : Option (Int) := (cmp_Compare_int.f a0_0 a1_0).bind fun t211 => ((cmp_Compare_int.f a0_1 a1_1).bind fun t212 => ((cmp_Compare_int.f a0_2 a1_2).bind fun t213 => ((aspath_Compare.f k l0_3 l1_3).bind fun t214 => ((comm_Compare.f l0_4 l1_4).bind fun t215 => ((cmp_Compare_int.f a0_5 a1_5).bind fun t216 => ((aspath_Compare.f k l0_6 l1_6).bind fun t217 => ((cmp_Or_int.f k (([t211, t212, t213, t214, t215, t216, t217] : List Int))).bind fun t221 => (some t221))))))))
def attr_Compare.T1 : Bool × List (List Nat × List Nat) := (true, [([], []), ([0], [0]), ([], []), ([2], [2]), ([1, 3], [1, 3]), ([], []), ([5], [5]), ([], []), ([7], [7]), ([6, 8, 4], [6, 8]), ([], []), ([10], [10]), ([], []), ([12], [12]), ([11, 13, 9], [11, 13]), ([], []), ([15], [15]), ([], []), ([17], [17]), ([16, 18, 14], [16, 18]), ([], []), ([20], [20]), ([], []), ([22], [22]), ([21, 23, 19], [21, 23]), ([], []), ([25], [25]), ([], []), ([27], [27]), ([26, 28, 24], [26, 28]), ([], []), ([30], [30]), ([], []), ([32], [32]), ([31, 33, 29], [31, 33]), ([4, 9, 14, 19, 24, 29, 34], [4, 9, 14, 19, 24, 29, 34]), ([35, 34], [35]), ([36, 36, 0, 1, 2, 3, 4, 5, 6, 7, 8, 9, 10, 11, 12, 13, 14, 15, 16, 17, 18, 19, 20, 21, 22, 23, 24, 25, 26, 27, 28, 29, 30, 31, 32, 33, 34, 35, 36], [36])])
def attr_Compare.B1 : List Nat := [0, 1, 0, 4, 15, 0, 32, 0, 128, 511, 0, 1024, 0, 4096, 16383, 0, 32768, 0, 131072, 524287, 0, 1048576, 0, 4194304, 16777215, 0, 33554432, 0, 134217728, 536870911, 0, 1073741824, 0, 4294967296, 17179869183, 34359738367, 68719476735, 137438953471]
theorem attr_Compare.tab1 : rtab .any (opsOf Try.f66 1) = attr_Compare.T1 := by kernel_rfl
theorem attr_Compare.bits1 : waitsOk attr_Compare.T1.2 attr_Compare.B1 = true := by kernel_rfl
theorem k0d5d.b7 {W : World} {g : Nat} {v0 v1 v2 v3 v4 v5 v6 : Value} {t : TypeId} (h : W.heap[g]? = some (.cells #[v0, v1, v2, v3, v4, v5, v6] t (0, 0))) {R : Prop} (r : R) : W.cell? ⟨g, 0, none⟩ = some v0 ∧ W.cell? ⟨g, 1, none⟩ = some v1 ∧ W.cell? ⟨g, 2, none⟩ = some v2 ∧ W.cell? ⟨g, 3, none⟩ = some v3 ∧ W.cell? ⟨g, 4, none⟩ = some v4 ∧ W.cell? ⟨g, 5, none⟩ = some v5 ∧ W.cell? ⟨g, 6, none⟩ = some v6 ∧ R :=
  ⟨(blk_cell h 0).trans rfl, (blk_cell h 1).trans rfl, (blk_cell h 2).trans rfl, (blk_cell h 3).trans rfl, (blk_cell h 4).trans rfl, (blk_cell h 5).trans rfl, (blk_cell h 6).trans rfl, r⟩
theorem k0d5d.b7e {W : World} {g : Nat} {v0 v1 v2 v3 v4 v5 v6 : Value} {t : TypeId} (h : W.heap[g]? = some (.cells #[v0, v1, v2, v3, v4, v5, v6] t (0, 0))) : W.cell? ⟨g, 0, none⟩ = some v0 ∧ W.cell? ⟨g, 1, none⟩ = some v1 ∧ W.cell? ⟨g, 2, none⟩ = some v2 ∧ W.cell? ⟨g, 3, none⟩ = some v3 ∧ W.cell? ⟨g, 4, none⟩ = some v4 ∧ W.cell? ⟨g, 5, none⟩ = some v5 ∧ W.cell? ⟨g, 6, none⟩ = some v6 :=
  ⟨(blk_cell h 0).trans rfl, (blk_cell h 1).trans rfl, (blk_cell h 2).trans rfl, (blk_cell h 3).trans rfl, (blk_cell h 4).trans rfl, (blk_cell h 5).trans rfl, (blk_cell h 6).trans rfl⟩
@[reducible] def k0d5d.S0 (g0 g1 : Nat) (v0 v1 v2 v3 v4 v5 v6 v7 v8 v9 v10 v11 v12 v13 : Value) (w' : World) : Prop := w'.cell? ⟨g0, 0, none⟩ = some v0 ∧ w'.cell? ⟨g0, 1, none⟩ = some v1 ∧ w'.cell? ⟨g0, 2, none⟩ = some v2 ∧ w'.cell? ⟨g0, 3, none⟩ = some v3 ∧ w'.cell? ⟨g0, 4, none⟩ = some v4 ∧ w'.cell? ⟨g0, 5, none⟩ = some v5 ∧ w'.cell? ⟨g0, 6, none⟩ = some v6 ∧ w'.cell? ⟨g1, 0, none⟩ = some v7 ∧ w'.cell? ⟨g1, 1, none⟩ = some v8 ∧ w'.cell? ⟨g1, 2, none⟩ = some v9 ∧ w'.cell? ⟨g1, 3, none⟩ = some v10 ∧ w'.cell? ⟨g1, 4, none⟩ = some v11 ∧ w'.cell? ⟨g1, 5, none⟩ = some v12 ∧ w'.cell? ⟨g1, 6, none⟩ = some v13
set_option maxHeartbeats 8000000 in
set_option maxRecDepth 100000 in
theorem attr_Compare.calls (k : Nat) (am : Int) (an : Int) (ao : Int) (A0_3 : Option Addr) (c0_3 : Nat) (ag : List Int) (A0_4 : Option Addr) (c0_4 : Nat) (ah : List (S102)) (ap : Int) (A0_6 : Option Addr) (c0_6 : Nat) (ai : List Int) (a1_0 : Int) (a1_1 : Int) (a1_2 : Int) (A1_3 : Option Addr) (c1_3 : Nat) (aj : List Int) (A1_4 : Option Addr) (c1_4 : Nat) (ak : List (S102)) (a1_5 : Int) (A1_6 : Option Addr) (c1_6 : Nat) (al : List Int) (r : Int) (w : World) (hr0_3 : Kd.C (Kd.int .i64) w A0_3 ag.length ag) (hc0_3 : ag.length ≤ c0_3) (hr0_4 : Kd.C k102 w A0_4 ah.length ah) (hc0_4 : ah.length ≤ c0_4) (hr0_6 : Kd.C (Kd.int .i64) w A0_6 ai.length ai) (hc0_6 : ai.length ≤ c0_6) (hr1_3 : Kd.C (Kd.int .i64) w A1_3 aj.length aj) (hc1_3 : aj.length ≤ c1_3) (hr1_4 : Kd.C k102 w A1_4 ak.length ak) (hc1_4 : ak.length ≤ c1_4) (hr1_6 : Kd.C (Kd.int .i64) w A1_6 al.length al) (hc1_6 : al.length ≤ c1_6) (h : attr_Compare.f k am an ao ag ah ap ai a1_0 a1_1 a1_2 aj ak a1_5 al = some r) :
  Calls Try.prog 66 #[.agg #[.int .i64 am, .int .i64 an, .int .i64 ao, .slice A0_3 ag.length c0_3, .slice A0_4 ah.length c0_4, .int .i64 ap, .slice A0_6 ai.length c0_6], .agg #[.int .i64 a1_0, .int .i64 a1_1, .int .i64 a1_2, .slice A1_3 aj.length c1_3, .slice A1_4 ak.length c1_4, .int .i64 a1_5, .slice A1_6 al.length c1_6]] w fun e w' => e = .returned (.int .i64 r) ∧ Below w.heap.size w w' := by
 have hu41 := Try.underlying41; have HR0_3 := Aside0.mk hr0_3; have HC0_3 := Aside0.mk hc0_3; clear hr0_3 hc0_3; have HR0_4 := Aside0.mk hr0_4; have HC0_4 := Aside0.mk hc0_4; clear hr0_4 hc0_4; have HR0_6 := Aside0.mk hr0_6; have HC0_6 := Aside0.mk hc0_6; clear hr0_6 hc0_6; have HR1_3 := Aside0.mk hr1_3; have HC1_3 := Aside0.mk hc1_3; clear hr1_3 hc1_3; have HR1_4 := Aside0.mk hr1_4; have HC1_4 := Aside0.mk hc1_4; clear hr1_4 hc1_4; have HR1_6 := Aside0.mk hr1_6; have HC1_6 := Aside0.mk hc1_6; clear hr1_6 hc1_6; have HB := Aside0.mk (Below.refl w.heap.size w); have H := h
 unfold attr_Compare.f at H
 clear h; replace H := Option.bind_eq_some_iff.mp H; obtain ⟨t211, A30, H⟩ := H; (try dsimp only at H); have A3 := Aside0.mk A30; clear A30; replace H := Option.bind_eq_some_iff.mp H; obtain ⟨t212, A40, H⟩ := H; (try dsimp only at H); have A4 := Aside0.mk A40; clear A40; replace H := Option.bind_eq_some_iff.mp H; obtain ⟨t213, A50, H⟩ := H; (try dsimp only at H); have A5 := Aside0.mk A50; clear A50; replace H := Option.bind_eq_some_iff.mp H; obtain ⟨t214, A60, H⟩ := H; (try dsimp only at H); have A6 := Aside0.mk A60; clear A60; replace H := Option.bind_eq_some_iff.mp H; obtain ⟨t215, A70, H⟩ := H; (try dsimp only at H); have A7 := Aside0.mk A70; clear A70; replace H := Option.bind_eq_some_iff.mp H; obtain ⟨t216, A80, H⟩ := H; (try dsimp only at H); have A8 := Aside0.mk A80; clear A80; replace H := Option.bind_eq_some_iff.mp H; obtain ⟨t217, A90, H⟩ := H; (try dsimp only at H); have A9 := Aside0.mk A90; clear A90; obtain ⟨y218, hy218⟩ : ∃ y_ : List Int, y_ = (([t211, t212, t213, t214, t215, t216, t217] : List Int)) := ⟨_, rfl⟩; (replace H : ((cmp_Or_int.f k y218).bind fun t221 => (some t221)) = some r := by first | (rw [hy218]; with_reducible exact H) | (have H2_ := (Option.bind_some _ _).symm.trans H; rw [hy218]; with_reducible exact H2_) | (have H2_ := (Option.bind_some _ _).symm.trans H; with_reducible exact H2_) | with_reducible exact H | (rw [hy218]; exact H) | exact H); have Ny218 := Aside0.mk hy218; clear hy218; replace H := Option.bind_eq_some_iff.mp H; obtain ⟨t221, A100, H⟩ := H; replace H : (some t221) = some r := H; have A10 := Aside0.mk A100; clear A100
 obtain rfl := Option.some.inj H
 go_enter Try.func66, Try.ntmps66
 try go_wp2_with (first | ((with_reducible refine gate_dst (N := 2) rfl ?_); refine box_event ?hg (N := 2) ?hd (cs := #[.int .i64 am, .int .i64 an, .int .i64 ao, .slice A0_3 ag.length c0_3, .slice A0_4 ah.length c0_4, .int .i64 ap, .slice A0_6 ai.length c0_6]) (t := 41) ?hr ?_; (case hd => rfl); (case hg => rfl); (case hr => first | (go_simp; done) | (go_simp; rfl)); intro ad hg w11 hbox hb; have n0_ := Aside0.mk (below_step (by repeat (first | (with_reducible first | exact HB.out | apply bA_ | apply bN_ | apply bD_) | exact HB.out)) hb); have n1_ := Aside0.mk (hbox); have n2_ := Aside0.mk ((by rw [hg]; exact (below_size (by repeat (first | (with_reducible first | exact HB.out | apply bA_ | apply bN_ | apply bD_) | exact HB.out))) : w.heap.size ≤ ad)); have n3_ := n2_; clear HB; have HB := n0_; have aa := n1_; have GW209 := n2_; have ac := n3_; clear n0_ n1_ n2_ n3_; clear hb hbox hg) | ((with_reducible refine gate_dst (N := 3) rfl ?_); refine box_event ?hg (N := 3) ?hd (cs := #[.int .i64 a1_0, .int .i64 a1_1, .int .i64 a1_2, .slice A1_3 aj.length c1_3, .slice A1_4 ak.length c1_4, .int .i64 a1_5, .slice A1_6 al.length c1_6]) (t := 41) ?hr ?_; (case hd => rfl); (case hg => rfl); (case hr => first | (go_simp; done) | (go_simp; rfl)); intro af hg w12 hbox hb; have n0_ := Aside0.mk (blk_below (g := ad) (by (with_reducible repeat (first | refine blk_drewN ?_ _ | refine blk_drew ?_ | refine blk_alloc ?_ _)); exact aa.out) hb); have n1_ := Aside0.mk (below_step (by repeat (first | (with_reducible first | exact HB.out | apply bA_ | apply bN_ | apply bD_ | refine below_set ?_ ac.out) | exact HB.out)) hb); have n2_ := Aside0.mk (hbox); have n3_ := Aside0.mk ((by rw [hg]; exact (below_size (by repeat (first | (with_reducible first | exact HB.out | apply bA_ | apply bN_ | apply bD_ | refine below_set ?_ ac.out) | exact HB.out))) : w.heap.size ≤ af)); have n4_ := n3_; have n5_ := Aside0.mk ((by rw [hg]; exact Nat.ne_of_lt (blk_lt (g := ad) (by (with_reducible repeat (first | refine blk_drewN ?_ _ | refine blk_drew ?_ | refine blk_alloc ?_ _)); exact aa.out)) : ad ≠ af)); have n6_ := Aside0.mk ((by rw [hg]; exact Nat.ne_of_gt (blk_lt (g := ad) (by (with_reducible repeat (first | refine blk_drewN ?_ _ | refine blk_drew ?_ | refine blk_alloc ?_ _)); exact aa.out)) : af ≠ ad)); clear aa; clear HB; have aa := n0_; have HB := n1_; have ab := n2_; have GW210 := n3_; have ae := n4_; have NB209_210 := n5_; have NB210_209 := n6_; clear n0_ n1_ n2_ n3_ n4_ n5_ n6_; clear hb hbox hg))
 have n0_ := Aside0.mk (blk_drew aa.out); have n1_ := Aside0.mk (blk_drew ab.out); have n2_ := Aside0.mk (below_drew1 HB.out); clear aa; clear ab; clear HB; have aa := n0_; have ab := n1_; have HB := n2_; clear n0_ n1_ n2_; (refine start_ (n := 38) (S := k0d5d.S0 ad af (.int .i64 am) (.int .i64 an) (.int .i64 ao) (.slice A0_3 ag.length c0_3) (.slice A0_4 ah.length c0_4) (.int .i64 ap) (.slice A0_6 ai.length c0_6) (.int .i64 a1_0) (.int .i64 a1_1) (.int .i64 a1_2) (.slice A1_3 aj.length c1_3) (.slice A1_4 ak.length c1_4) (.int .i64 a1_5) (.slice A1_6 al.length c1_6)) (ds := []) #[false, false, false, false, false, false, false, false, false, false, false, false, false, false, false, false, false, false, false, false, false, false, false, false, false, false, false, false, false, false, false, false, false, false, false, false, false, false] (by kernel_rfl) rfl rfl (k0d5d.b7 aa.out (k0d5d.b7e ab.out)) (fun hHeld => ?_); refine with_tabW attr_Compare.tab1 attr_Compare.bits1 (fun HT_ HW_ => ?_)); generalize w12.drew = w13 at aa ab HB hHeld ⊢; refine pu_ 0 5 HT_.out ?_; refine pu_ 2 7 HT_.out ?_; refine pu_ 5 10 HT_.out ?_; refine pu_ 7 12 HT_.out ?_; refine pu_ 10 15 HT_.out ?_; refine pu_ 12 17 HT_.out ?_; refine pu_ 15 20 HT_.out ?_; refine pu_ 17 22 HT_.out ?_; refine pu_ 20 25 HT_.out ?_; refine pu_ 22 27 HT_.out ?_; refine pu_ 25 30 HT_.out ?_; refine pu_ 27 32 HT_.out ?_; refine pu_ 30 35 HT_.out ?_; refine pu_ 32 37 HT_.out ?_; refine tk_ 1 6 HT_.out HW_.out hHeld ?_; refine tk_ 3 8 HT_.out HW_.out hHeld ?_; refine tk_ 6 11 HT_.out HW_.out hHeld ?_; refine tk_ 8 13 HT_.out HW_.out hHeld ?_; refine tk_ 11 16 HT_.out HW_.out hHeld ?_; refine tk_ 13 18 HT_.out HW_.out hHeld ?_; refine tk_ 16 21 HT_.out HW_.out hHeld ?_; refine tk_ 18 23 HT_.out HW_.out hHeld ?_; refine tk_ 21 26 HT_.out HW_.out hHeld ?_; refine tk_ 23 28 HT_.out HW_.out hHeld ?_; refine tk_ 26 31 HT_.out HW_.out hHeld ?_; refine tk_ 28 33 HT_.out HW_.out hHeld ?_
 refine tk_ 31 36 HT_.out HW_.out hHeld ?_; refine tk_ 33 38 HT_.out HW_.out hHeld ?_; (refine one_ (i := 4) (N := some 9) #[true, true, true, true, true, true, true, true, true, false, true, true, true, true, false, true, true, true, true, false, true, true, true, true, false, true, true, true, true, false, true, true, true, true, false, false, false, false] rfl rfl (one_of HT_.out (by kernel_rfl)) (by decide) (fun K hK => ?_)); (refine goes_ Try.func90 (by kernel_rfl) rfl #[.int .i64 am, .int .i64 a1_0] (by rfl) rfl rfl (by (try simp only [List.map_toArray, List.map_cons, List.map_nil]); first | done | rfl) ?_); (with_reducible refine (cmp_Compare_int.calls am a1_0 t211 _ A3.out).mono ?_); rintro e w' ⟨rfl, ⟨nd, rfl⟩⟩; refine ⟨_, rfl, ?_⟩; refine hK.out _ _ (k0d5d.b7 aa.out (k0d5d.b7e ab.out)) (fun hHeld => ?_); clear hK K; refine norm_ (a' := ?_) ?_ ?_
 rotate_left
 ·show Act.put _ (some 9) _ = _
  simp only [Act.put, List.setIfInBounds_toArray, List.set_cons_zero, List.set_cons_succ, i64_w]; rfl
 (refine one_ (i := 9) (N := some 14) #[true, true, true, true, true, true, true, true, true, true, true, true, true, true, false, true, true, true, true, false, true, true, true, true, false, true, true, true, true, false, true, true, true, true, false, false, false, false] rfl rfl (one_of HT_.out (by kernel_rfl)) (by decide) (fun K hK => ?_)); (refine goes_ Try.func90 (by kernel_rfl) rfl #[.int .i64 an, .int .i64 a1_1] (by rfl) rfl rfl (by (try simp only [List.map_toArray, List.map_cons, List.map_nil]); first | done | rfl) ?_); (with_reducible refine (cmp_Compare_int.calls an a1_1 t212 _ A4.out).mono ?_); rintro e w' ⟨rfl, ⟨nd, rfl⟩⟩; refine ⟨_, rfl, ?_⟩; refine hK.out _ _ (k0d5d.b7 aa.out (k0d5d.b7e ab.out)) (fun hHeld => ?_); clear hK K; refine norm_ (a' := ?_) ?_ ?_
 rotate_left
 ·show Act.put _ (some 14) _ = _
  simp only [Act.put, List.setIfInBounds_toArray, List.set_cons_zero, List.set_cons_succ, i64_w]; rfl
 (refine one_ (i := 14) (N := some 19) #[true, true, true, true, true, true, true, true, true, true, true, true, true, true, true, true, true, true, true, false, true, true, true, true, false, true, true, true, true, false, true, true, true, true, false, false, false, false] rfl rfl (one_of HT_.out (by kernel_rfl)) (by decide) (fun K hK => ?_)); (refine goes_ Try.func90 (by kernel_rfl) rfl #[.int .i64 ao, .int .i64 a1_2] (by rfl) rfl rfl (by (try simp only [List.map_toArray, List.map_cons, List.map_nil]); first | done | rfl) ?_); (with_reducible refine (cmp_Compare_int.calls ao a1_2 t213 _ A5.out).mono ?_); rintro e w' ⟨rfl, ⟨nd, rfl⟩⟩; refine ⟨_, rfl, ?_⟩; refine hK.out _ _ (k0d5d.b7 aa.out (k0d5d.b7e ab.out)) (fun hHeld => ?_); clear hK K; refine norm_ (a' := ?_) ?_ ?_
 rotate_left
 ·show Act.put _ (some 19) _ = _
  simp only [Act.put, List.setIfInBounds_toArray, List.set_cons_zero, List.set_cons_succ, i64_w]; rfl
 (refine one_ (i := 19) (N := some 24) #[true, true, true, true, true, true, true, true, true, true, true, true, true, true, true, true, true, true, true, true, true, true, true, true, false, true, true, true, true, false, true, true, true, true, false, false, false, false] rfl rfl (one_of HT_.out (by kernel_rfl)) (by decide) (fun K hK => ?_)); (refine goes_ Try.func91 (by kernel_rfl) rfl #[.slice A0_3 ag.length c0_3, .slice A1_3 aj.length c1_3] (by rfl) rfl rfl (by (try simp only [List.map_toArray, List.map_cons, List.map_nil]); first | done | rfl) ?_); (with_reducible refine (aspath_Compare.calls k _ _ ag _ _ aj t214 _ ?side1 ?side2 ?side3 ?side4 A6.out).mono ?_); ((case side1 | side3 => repeat (first | exact (Kd.C_below HR0_3.out (by repeat (first | (with_reducible first | exact HB.out | apply bA_ | apply bN_ | apply bD_ | refine below_set ?_ ac.out | refine below_set ?_ ae.out) | exact HB.out))) | exact (Kd.C_below HR1_3.out (by repeat (first | (with_reducible first | exact HB.out | apply bA_ | apply bN_ | apply bD_ | refine below_set ?_ ac.out | refine below_set ?_ ae.out) | exact HB.out))) | (with_reducible refine Kd.C_alloc ?_ _) | (with_reducible refine Kd.C_drewN ?_ _) | (with_reducible refine Kd.C_drew ?_)))); ((case side2 | side4 => first | exact HC0_3.out | exact HC1_3.out)); rintro e w14 ⟨rfl, hb⟩; refine ⟨_, rfl, ?_⟩; (replace aa := Aside0.mk (blk_below (g := ad) (by (with_reducible repeat (first | refine blk_drewN ?_ _ | refine blk_drew ?_ | refine blk_alloc ?_ _)); exact aa.out) hb)); (replace ab := Aside0.mk (blk_below (g := af) (by (with_reducible repeat (first | refine blk_drewN ?_ _ | refine blk_drew ?_ | refine blk_alloc ?_ _)); exact ab.out) hb))
 (replace HB := Aside0.mk (below_step (by repeat (first | (with_reducible first | exact HB.out | apply bA_ | apply bN_ | apply bD_ | refine below_set ?_ ac.out | refine below_set ?_ ae.out) | exact HB.out)) hb)); (try clear hb); refine hK.out _ _ (k0d5d.b7 aa.out (k0d5d.b7e ab.out)) (fun hHeld => ?_); clear hK K; refine norm_ (a' := ?_) ?_ ?_
 rotate_left
 ·show Act.put _ (some 24) _ = _
  simp only [Act.put, List.setIfInBounds_toArray, List.set_cons_zero, List.set_cons_succ, i64_w]; rfl
 (refine one_ (i := 24) (N := some 29) #[true, true, true, true, true, true, true, true, true, true, true, true, true, true, true, true, true, true, true, true, true, true, true, true, true, true, true, true, true, false, true, true, true, true, false, false, false, false] rfl rfl (one_of HT_.out (by kernel_rfl)) (by decide) (fun K hK => ?_)); (refine goes_ Try.func92 (by kernel_rfl) rfl #[.slice A0_4 ah.length c0_4, .slice A1_4 ak.length c1_4] (by rfl) rfl rfl (by (try simp only [List.map_toArray, List.map_cons, List.map_nil]); first | done | rfl) ?_); (with_reducible refine (comm_Compare.calls _ _ ah _ _ ak t215 _ ?side1 ?side2 ?side3 ?side4 A7.out).mono ?_); ((case side1 | side3 => repeat (first | exact (Kd.C_below HR0_4.out HB.out) | exact (Kd.C_below HR1_4.out HB.out) | (with_reducible refine Kd.C_alloc ?_ _) | (with_reducible refine Kd.C_drewN ?_ _) | (with_reducible refine Kd.C_drew ?_)))); ((case side2 | side4 => first | exact HC0_4.out | exact HC1_4.out)); rintro e w15 ⟨rfl, hb⟩; refine ⟨_, rfl, ?_⟩; (replace aa := Aside0.mk (blk_below (g := ad) (by (with_reducible repeat (first | refine blk_drewN ?_ _ | refine blk_drew ?_ | refine blk_alloc ?_ _)); exact aa.out) hb)); (replace ab := Aside0.mk (blk_below (g := af) (by (with_reducible repeat (first | refine blk_drewN ?_ _ | refine blk_drew ?_ | refine blk_alloc ?_ _)); exact ab.out) hb)); (replace HB := Aside0.mk (below_step (by repeat (first | (with_reducible first | exact HB.out | apply bA_ | apply bN_ | apply bD_ | refine below_set ?_ ac.out | refine below_set ?_ ae.out) | exact HB.out)) hb))
 (try clear hb); refine hK.out _ _ (k0d5d.b7 aa.out (k0d5d.b7e ab.out)) (fun hHeld => ?_); clear hK K; refine norm_ (a' := ?_) ?_ ?_
 rotate_left
 ·show Act.put _ (some 29) _ = _
  simp only [Act.put, List.setIfInBounds_toArray, List.set_cons_zero, List.set_cons_succ, i64_w]; rfl
 (refine one_ (i := 29) (N := some 34) (pf 38 34) rfl rfl (one_of HT_.out (by kernel_rfl)) (by decide) (fun K hK => ?_)); (refine goes_ Try.func90 (by kernel_rfl) rfl #[.int .i64 ap, .int .i64 a1_5] (by rfl) rfl rfl (by (try simp only [List.map_toArray, List.map_cons, List.map_nil]); first | done | rfl) ?_); (with_reducible refine (cmp_Compare_int.calls ap a1_5 t216 _ A8.out).mono ?_); rintro e w' ⟨rfl, ⟨nd, rfl⟩⟩; refine ⟨_, rfl, ?_⟩; refine hK.out _ _ (k0d5d.b7 aa.out (k0d5d.b7e ab.out)) (fun hHeld => ?_); clear hK K; refine norm_ (a' := ?_) ?_ ?_
 rotate_left
 ·show Act.put _ (some 34) _ = _
  simp only [Act.put, List.setIfInBounds_toArray, List.set_cons_zero, List.set_cons_succ, i64_w]; rfl
 (refine one_ (i := 34) (N := some 39) (pf 38 35) rfl rfl (one_of HT_.out (by kernel_rfl)) (by decide) (fun K hK => ?_)); (refine goes_ Try.func91 (by kernel_rfl) rfl #[.slice A0_6 ai.length c0_6, .slice A1_6 al.length c1_6] (by rfl) rfl rfl (by (try simp only [List.map_toArray, List.map_cons, List.map_nil]); first | done | rfl) ?_); (with_reducible refine (aspath_Compare.calls k _ _ ai _ _ al t217 _ ?side1 ?side2 ?side3 ?side4 A9.out).mono ?_); ((case side1 | side3 => repeat (first | exact (Kd.C_below HR0_6.out (by repeat (first | (with_reducible first | exact HB.out | apply bA_ | apply bN_ | apply bD_ | refine below_set ?_ ac.out | refine below_set ?_ ae.out) | exact HB.out))) | exact (Kd.C_below HR1_6.out (by repeat (first | (with_reducible first | exact HB.out | apply bA_ | apply bN_ | apply bD_ | refine below_set ?_ ac.out | refine below_set ?_ ae.out) | exact HB.out))) | (with_reducible refine Kd.C_alloc ?_ _) | (with_reducible refine Kd.C_drewN ?_ _) | (with_reducible refine Kd.C_drew ?_)))); ((case side2 | side4 => first | exact HC0_6.out | exact HC1_6.out)); rintro e w16 ⟨rfl, hb⟩; refine ⟨_, rfl, ?_⟩; (replace aa := Aside0.mk (blk_below (g := ad) (by (with_reducible repeat (first | refine blk_drewN ?_ _ | refine blk_drew ?_ | refine blk_alloc ?_ _)); exact aa.out) hb)); (replace ab := Aside0.mk (blk_below (g := af) (by (with_reducible repeat (first | refine blk_drewN ?_ _ | refine blk_drew ?_ | refine blk_alloc ?_ _)); exact ab.out) hb)); (replace HB := Aside0.mk (below_step (by repeat (first | (with_reducible first | exact HB.out | apply bA_ | apply bN_ | apply bD_ | refine below_set ?_ ac.out | refine below_set ?_ ae.out) | exact HB.out)) hb))
 (try clear hb); refine hK.out _ _ (k0d5d.b7 aa.out (k0d5d.b7e ab.out)) (fun hHeld => ?_); clear hK K; refine norm_ (a' := ?_) ?_ ?_
 rotate_left
 ·show Act.put _ (some 39) _ = _
  simp only [Act.put, List.setIfInBounds_toArray, List.set_cons_zero, List.set_cons_succ, i64_w]; rfl
 (refine one_ (i := 35) (N := some 40) (pf 38 36) rfl rfl (one_of HT_.out (by kernel_rfl)) (by decide) (fun K hK => ?_)); (refine Kd.R_lit_step (Kd.int .i64) _ 3 ?hg (N := 40) ?hd (xs := ([t211, t212, t213, t214, t215, t216, t217] : List Int)) (inner := [.int .i64 t211, .int .i64 t212, .int .i64 t213, .int .i64 t214, .int .i64 t215, .int .i64 t216, .int .i64 t217]) (ok := fun _ => True) (okp := fun _ => True) ?hr ?hp (fun _ hk => hk) trivial (Below.refl _ _) (Nat.le_refl _) (by simp) ?_; (case hd => rfl); (case hg => rfl); (case hr => first | (go_simp; done) | (go_simp; rfl)); (case hp => exact (Reps.one (show Kd.M (Kd.int .i64) _ _ _ t211 [.int .i64 t211] from rfl) (Reps.one (show Kd.M (Kd.int .i64) _ _ _ t212 [.int .i64 t212] from rfl) (Reps.one (show Kd.M (Kd.int .i64) _ _ _ t213 [.int .i64 t213] from rfl) (Reps.one (show Kd.M (Kd.int .i64) _ _ _ t214 [.int .i64 t214] from rfl) (Reps.one (show Kd.M (Kd.int .i64) _ _ _ t215 [.int .i64 t215] from rfl) (Reps.one (show Kd.M (Kd.int .i64) _ _ _ t216 [.int .i64 t216] from rfl) (Reps.one (show Kd.M (Kd.int .i64) _ _ _ t217 [.int .i64 t217] from rfl) (Reps.none _ _)))))))))); intro v219 w17 ho18 hb hg_ hnew_; clear hg_ hnew_; ((first | rw [← Ny218.out] at ho18 | (simp only [Int.reduceToNat] at ho18; rw [← Ny218.out] at ho18))); (have HO220 := Aside0.mk (Kd.R_lower ho18 (below_size (by repeat (first | (with_reducible first | exact HB.out | apply bA_ | apply bN_ | apply bD_ | refine below_set ?_ ac.out | refine below_set ?_ ae.out) | exact HB.out)))))
 (replace aa := Aside0.mk (blk_below (g := ad) (by (with_reducible repeat (first | refine blk_drewN ?_ _ | refine blk_drew ?_ | refine blk_alloc ?_ _)); exact aa.out) hb)); (replace ab := Aside0.mk (blk_below (g := af) (by (with_reducible repeat (first | refine blk_drewN ?_ _ | refine blk_drew ?_ | refine blk_alloc ?_ _)); exact ab.out) hb)); (replace HB := Aside0.mk (below_step (by repeat (first | (with_reducible first | exact HB.out | apply bA_ | apply bN_ | apply bD_ | refine below_set ?_ ac.out | refine below_set ?_ ae.out) | exact HB.out)) hb)); clear hb ho18; obtain ⟨Ao19, co19, eo19⟩ := Kd.R_slice HO220.out; ((first | subst eo19 | (injection eo19 with f1_ f2_ f3_; have f4_ := f1_.symm; have f5_ := f3_.symm; clear f1_ f2_ f3_; subst f4_; subst f5_))); refine hK.out _ _ (k0d5d.b7 aa.out (k0d5d.b7e ab.out)) (fun hHeld => ?_); clear hK K; refine norm_ (a' := ?_) ?_ ?_
 rotate_left
 ·show Act.put _ (some 40) _ = _
  simp only [Act.put, List.setIfInBounds_toArray, List.set_cons_zero, List.set_cons_succ, i64_w]; rfl
 (refine one_ (i := 36) (N := some 41) (pf 38 37) rfl rfl (one_of HT_.out (by kernel_rfl)) (by decide) (fun K hK => ?_)); (refine goes_ Try.func89 (by kernel_rfl) rfl #[.slice Ao19 y218.length co19] (by rfl) rfl rfl (by (try simp only [List.map_toArray, List.map_cons, List.map_nil]); first | done | rfl) ?_); (with_reducible refine (cmp_Or_int.calls k _ _ y218 t221 _ ?side1 ?side2 A10.out).mono ?_); ((case side1 => repeat (first | exact (Kd.R_reads' HO220.out).2.2 | (with_reducible refine Kd.C_alloc ?_ _) | (with_reducible refine Kd.C_drewN ?_ _) | (with_reducible refine Kd.C_drew ?_)))); (case side2 => exact (Kd.R_reads' HO220.out).2.1); rintro e w' ⟨rfl, ⟨nd, rfl⟩⟩; refine ⟨_, rfl, ?_⟩; refine hK.out _ _ (k0d5d.b7 aa.out (k0d5d.b7e ab.out)) (fun hHeld => ?_); clear hK K; refine norm_ (a' := ?_) ?_ ?_
 rotate_left
 ·show Act.put _ (some 41) _ = _
  simp only [Act.put, List.setIfInBounds_toArray, List.set_cons_zero, List.set_cons_succ, i64_w]; rfl
 refine pu_ 37 4 HT_.out ?_; (refine done_ (done_of HT_.out (by kernel_rfl)) ?_); (try go_wp2)
 go_ret
 exact ⟨by first | rfl | (simp [errW_none, errW_some] <;> rfl) | (simp [*, errW_none, errW_some] <;> rfl), by repeat (first | (with_reducible first | exact HB.out | apply bA_ | apply bN_ | apply bD_ | refine below_set ?_ ac.out | refine below_set ?_ ae.out) | exact HB.out)⟩

def attr_Same.f (k : Nat) (a0_0 : Int) (a0_1 : Int) (a0_2 : Int) (l0_3 : List Int) (l0_4 : List (S102)) (a0_5 : Int) (l0_6 : List Int) (a1_0 : Int) (a1_1 : Int) (a1_2 : Int) (l1_3 : List Int) (l1_4 : List (S102)) (a1_5 : Int) (l1_6 : List Int) : Option (Bool) := (attr_Compare.f k a0_0 a0_1 a0_2 l0_3 l0_4 a0_5 l0_6 a1_0 a1_1 a1_2 l1_3 l1_4 a1_5 l1_6).bind fun t224 => (some (t224 == 0))
set_option maxHeartbeats 8000000 in
set_option maxRecDepth 100000 in
theorem attr_Same.calls (k : Nat) (a0_0 : Int) (a0_1 : Int) (a0_2 : Int) (A0_3 : Option Addr) (c0_3 : Nat) (l0_3 : List Int) (A0_4 : Option Addr) (c0_4 : Nat) (l0_4 : List (S102)) (a0_5 : Int) (A0_6 : Option Addr) (c0_6 : Nat) (l0_6 : List Int) (a1_0 : Int) (a1_1 : Int) (a1_2 : Int) (A1_3 : Option Addr) (c1_3 : Nat) (l1_3 : List Int) (A1_4 : Option Addr) (c1_4 : Nat) (l1_4 : List (S102)) (a1_5 : Int) (A1_6 : Option Addr) (c1_6 : Nat) (l1_6 : List Int) (r : Bool) (w : World) (hr0_3 : Kd.C (Kd.int .i64) w A0_3 l0_3.length l0_3) (hc0_3 : l0_3.length ≤ c0_3) (hr0_4 : Kd.C k102 w A0_4 l0_4.length l0_4) (hc0_4 : l0_4.length ≤ c0_4) (hr0_6 : Kd.C (Kd.int .i64) w A0_6 l0_6.length l0_6) (hc0_6 : l0_6.length ≤ c0_6) (hr1_3 : Kd.C (Kd.int .i64) w A1_3 l1_3.length l1_3) (hc1_3 : l1_3.length ≤ c1_3) (hr1_4 : Kd.C k102 w A1_4 l1_4.length l1_4) (hc1_4 : l1_4.length ≤ c1_4) (hr1_6 : Kd.C (Kd.int .i64) w A1_6 l1_6.length l1_6) (hc1_6 : l1_6.length ≤ c1_6) (h : attr_Same.f k a0_0 a0_1 a0_2 l0_3 l0_4 a0_5 l0_6 a1_0 a1_1 a1_2 l1_3 l1_4 a1_5 l1_6 = some r) :
    Calls Try.prog 39 #[.agg #[.int .i64 a0_0, .int .i64 a0_1, .int .i64 a0_2, .slice A0_3 l0_3.length c0_3, .slice A0_4 l0_4.length c0_4, .int .i64 a0_5, .slice A0_6 l0_6.length c0_6], .agg #[.int .i64 a1_0, .int .i64 a1_1, .int .i64 a1_2, .slice A1_3 l1_3.length c1_3, .slice A1_4 l1_4.length c1_4, .int .i64 a1_5, .slice A1_6 l1_6.length c1_6]] w fun e w' => e = .returned (.bool r) ∧ Below w.heap.size w w' := by
  have hu41 := Try.underlying41; have HR0_3 := Aside0.mk hr0_3; have HC0_3 := Aside0.mk hc0_3; clear hr0_3 hc0_3; have HR0_4 := Aside0.mk hr0_4; have HC0_4 := Aside0.mk hc0_4; clear hr0_4 hc0_4; have HR0_6 := Aside0.mk hr0_6; have HC0_6 := Aside0.mk hc0_6; clear hr0_6 hc0_6; have HR1_3 := Aside0.mk hr1_3; have HC1_3 := Aside0.mk hc1_3; clear hr1_3 hc1_3; have HR1_4 := Aside0.mk hr1_4; have HC1_4 := Aside0.mk hc1_4; clear hr1_4 hc1_4; have HR1_6 := Aside0.mk hr1_6; have HC1_6 := Aside0.mk hc1_6; clear hr1_6 hc1_6; have HB := Aside0.mk (Below.refl w.heap.size w); have H : ((attr_Compare.f k a0_0 a0_1 a0_2 l0_3 l0_4 a0_5 l0_6 a1_0 a1_1 a1_2 l1_3 l1_4 a1_5 l1_6).bind fun t224 => (some (t224 == 0))) = some r := h; clear h; replace H := Option.bind_eq_some_iff.mp H; obtain ⟨t224, A30, H⟩ := H; replace H : (some (t224 == 0)) = some r := H; have A3 := Aside0.mk A30; clear A30; obtain rfl := Option.some.inj H
  go_enter Try.func39, Try.ntmps39
  go_wp2_with (first | ((with_reducible refine gate_dst (N := 2) rfl ?_); refine box_event ?hg (N := 2) ?hd (cs := #[.int .i64 a0_0, .int .i64 a0_1, .int .i64 a0_2, .slice A0_3 l0_3.length c0_3, .slice A0_4 l0_4.length c0_4, .int .i64 a0_5, .slice A0_6 l0_6.length c0_6]) (t := 41) ?hr ?_; (case hd => rfl); (case hg => rfl); (case hr => first | (go_simp; done) | (go_simp; rfl)); intro gb222 hg w4 hbox hb; have n0_ := Aside0.mk (below_step (by repeat (first | (with_reducible first | exact HB.out | apply bA_ | apply bN_ | apply bD_) | exact HB.out)) hb); have n1_ := Aside0.mk (hbox); have n2_ := Aside0.mk ((by rw [hg]; exact (below_size (by repeat (first | (with_reducible first | exact HB.out | apply bA_ | apply bN_ | apply bD_) | exact HB.out))) : w.heap.size ≤ gb222)); have n3_ := n2_; clear HB; have HB := n0_; have BK222 := n1_; have GW222 := n2_; have GE222 := n3_; clear n0_ n1_ n2_ n3_; clear hb hbox hg) | ((with_reducible refine gate_dst (N := 3) rfl ?_); refine box_event ?hg (N := 3) ?hd (cs := #[.int .i64 a1_0, .int .i64 a1_1, .int .i64 a1_2, .slice A1_3 l1_3.length c1_3, .slice A1_4 l1_4.length c1_4, .int .i64 a1_5, .slice A1_6 l1_6.length c1_6]) (t := 41) ?hr ?_; (case hd => rfl); (case hg => rfl); (case hr => first | (go_simp; done) | (go_simp; rfl)); intro gb223 hg w5 hbox hb; have n0_ := Aside0.mk (blk_below (g := gb222) (o := .cells #[.int .i64 a0_0, .int .i64 a0_1, .int .i64 a0_2, .slice A0_3 l0_3.length c0_3, .slice A0_4 l0_4.length c0_4, .int .i64 a0_5, .slice A0_6 l0_6.length c0_6] 41 (0, 0)) (by (with_reducible repeat (first | refine blk_drewN ?_ _ | refine blk_drew ?_ | refine blk_alloc ?_ _)); exact BK222.out) hb); have n1_ := Aside0.mk (below_step (by repeat (first | (with_reducible first | exact HB.out | apply bA_ | apply bN_ | apply bD_ | refine below_set ?_ GE222.out) | exact HB.out)) hb); have n2_ := Aside0.mk (hbox); have n3_ := Aside0.mk ((by rw [hg]; exact (below_size (by repeat (first | (with_reducible first | exact HB.out | apply bA_ | apply bN_ | apply bD_ | refine below_set ?_ GE222.out) | exact HB.out))) : w.heap.size ≤ gb223)); have n4_ := n3_; have n5_ := Aside0.mk ((by rw [hg]; exact Nat.ne_of_lt (blk_lt (g := gb222) (by (with_reducible repeat (first | refine blk_drewN ?_ _ | refine blk_drew ?_ | refine blk_alloc ?_ _)); exact BK222.out)) : gb222 ≠ gb223)); have n6_ := Aside0.mk ((by rw [hg]; exact Nat.ne_of_gt (blk_lt (g := gb222) (by (with_reducible repeat (first | refine blk_drewN ?_ _ | refine blk_drew ?_ | refine blk_alloc ?_ _)); exact BK222.out)) : gb223 ≠ gb222)); clear BK222; clear HB; have BK222 := n0_; have HB := n1_; have BK223 := n2_; have GW223 := n3_; have GE223 := n4_; have NB222_223 := n5_; have NB223_222 := n6_; clear n0_ n1_ n2_ n3_ n4_ n5_ n6_; clear hb hbox hg; have hnb6 := NB222_223.out; have hnc6 := NB223_222.out; have hcz7_0 := blk_cell BK222.out; have hfz7_0 := blk_frozen BK222.out; have hcz8_0 := blk_cell BK223.out; have hfz8_0 := blk_frozen BK223.out) | ((with_reducible refine gate_callee (f := 66) rfl ?_); refine goesL_ (some 7) rfl rfl Try.func66 (by kernel_rfl) rfl #[.agg #[.int .i64 a0_0, .int .i64 a0_1, .int .i64 a0_2, .slice A0_3 l0_3.length c0_3, .slice A0_4 l0_4.length c0_4, .int .i64 a0_5, .slice A0_6 l0_6.length c0_6], .agg #[.int .i64 a1_0, .int .i64 a1_1, .int .i64 a1_2, .slice A1_3 l1_3.length c1_3, .slice A1_4 l1_4.length c1_4, .int .i64 a1_5, .slice A1_6 l1_6.length c1_6]] rfl (by (try simp only [List.map_toArray, List.map_cons, List.map_nil]); first | done | rfl | (simp only [List.length_drop, List.length_take]; rfl)) ?_; (with_reducible refine (attr_Compare.calls k a0_0 a0_1 a0_2 _ _ l0_3 _ _ l0_4 a0_5 _ _ l0_6 a1_0 a1_1 a1_2 _ _ l1_3 _ _ l1_4 a1_5 _ _ l1_6 t224 _ ?side1 ?side2 ?side3 ?side4 ?side5 ?side6 ?side7 ?side8 ?side9 ?side10 ?side11 ?side12 A3.out).mono ?_); (case side1 => repeat (first | exact (Kd.C_below HR0_3.out HB.out) | (with_reducible refine Kd.C_alloc ?_ _) | (with_reducible refine Kd.C_drewN ?_ _) | (with_reducible refine Kd.C_drew ?_))); (case side2 => exact HC0_3.out); (case side3 => repeat (first | exact (Kd.C_below HR0_4.out HB.out) | (with_reducible refine Kd.C_alloc ?_ _) | (with_reducible refine Kd.C_drewN ?_ _) | (with_reducible refine Kd.C_drew ?_))); (case side4 => exact HC0_4.out); (case side5 => repeat (first | exact (Kd.C_below HR0_6.out HB.out) | (with_reducible refine Kd.C_alloc ?_ _) | (with_reducible refine Kd.C_drewN ?_ _) | (with_reducible refine Kd.C_drew ?_))); (case side6 => exact HC0_6.out); (case side7 => repeat (first | exact (Kd.C_below HR1_3.out HB.out) | (with_reducible refine Kd.C_alloc ?_ _) | (with_reducible refine Kd.C_drewN ?_ _) | (with_reducible refine Kd.C_drew ?_))); (case side8 => exact HC1_3.out); (case side9 => repeat (first | exact (Kd.C_below HR1_4.out HB.out) | (with_reducible refine Kd.C_alloc ?_ _) | (with_reducible refine Kd.C_drewN ?_ _) | (with_reducible refine Kd.C_drew ?_))); (case side10 => exact HC1_4.out); (case side11 => repeat (first | exact (Kd.C_below HR1_6.out HB.out) | (with_reducible refine Kd.C_alloc ?_ _) | (with_reducible refine Kd.C_drewN ?_ _) | (with_reducible refine Kd.C_drew ?_))); (case side12 => exact HC1_6.out); rintro e w9 ⟨rfl, hb⟩; refine ⟨_, rfl, ?_⟩; have n0_ := Aside0.mk (blk_below (g := gb222) (o := .cells #[.int .i64 a0_0, .int .i64 a0_1, .int .i64 a0_2, .slice A0_3 l0_3.length c0_3, .slice A0_4 l0_4.length c0_4, .int .i64 a0_5, .slice A0_6 l0_6.length c0_6] 41 (0, 0)) (by (with_reducible repeat (first | refine blk_drewN ?_ _ | refine blk_drew ?_ | refine blk_alloc ?_ _)); exact BK222.out) hb); have n1_ := Aside0.mk (blk_below (g := gb223) (o := .cells #[.int .i64 a1_0, .int .i64 a1_1, .int .i64 a1_2, .slice A1_3 l1_3.length c1_3, .slice A1_4 l1_4.length c1_4, .int .i64 a1_5, .slice A1_6 l1_6.length c1_6] 41 (0, 0)) (by (with_reducible repeat (first | refine blk_drewN ?_ _ | refine blk_drew ?_ | refine blk_alloc ?_ _)); exact BK223.out) hb); have n2_ := Aside0.mk (below_step (by repeat (first | (with_reducible first | exact HB.out | apply bA_ | apply bN_ | apply bD_ | refine below_set ?_ GE222.out | refine below_set ?_ GE223.out) | exact HB.out)) hb); clear BK222; clear BK223; clear HB; have BK222 := n0_; have BK223 := n1_; have HB := n2_; clear n0_ n1_ n2_; (try clear hb)))
  go_ret
  exact ⟨by first | rfl | (simp [errW_none, errW_some] <;> rfl) | (simp [*, errW_none, errW_some] <;> rfl), by repeat (first | (with_reducible first | exact HB.out | apply bA_ | apply bN_ | apply bD_ | refine below_set ?_ GE222.out | refine below_set ?_ GE223.out) | exact HB.out)⟩

def attr_within.f (a0 : Int) (a1 : Int) (a2 : Int) : Option (Bool) := if a0 ≥ a1 then (some (decide (a0 ≤ a2))) else (some false)
set_option maxHeartbeats 8000000 in
set_option maxRecDepth 100000 in
theorem attr_within.calls (a0 : Int) (a1 : Int) (a2 : Int) (r : Bool) (w : World) (h : attr_within.f a0 a1 a2 = some r) :
    Calls Try.prog 67 #[.int .i64 a0, .int .i64 a1, .int .i64 a2] w fun e w' => e = .returned (.bool r) ∧ Drawn0 w w' := by
  have H : (if a0 ≥ a1 then (some (decide (a0 ≤ a2))) else (some false)) = some r := h; clear h
  by_cases c4 : a0 ≥ a1
  · rw [if_pos c4] at H
    have c4b0 : decide (a1 ≤ a0) = true := decide_eq_true c4; clear c4; obtain rfl := Option.some.inj H
    go_enter Try.func67, Try.ntmps67
    go_wp2
    go_ret
    exact ⟨by first | rfl | (simp; done) | (simp [*]; done), by repeat (first | exact Drawn0.refl _ | apply Drawn0.step)⟩
  · rw [if_neg c4] at H
    have c4b0 : decide (a1 ≤ a0) = false := decide_eq_false c4; clear c4; obtain rfl := Option.some.inj H
    go_enter Try.func67, Try.ntmps67
    go_wp2
    go_ret
    exact ⟨by first | rfl | (simp; done) | (simp [*]; done), by repeat (first | exact Drawn0.refl _ | apply Drawn0.step)⟩

def asB (n : Int) : Bool := decide (1 ≤ n) && decide (n ≤ 65535)
def aspath_May.f (l0 : List Int) : Option Bool := some (decide (l0.length ≤ 16) && !(l0.any fun n => !asB n))
theorem aspath_May.known (n : Int) (w : World) : Calls Try.prog 95 #[.int .i64 n] w fun e w' => e = .returned (.bool (asB n)) ∧ w' = w := by
  unfold asB
  by_cases h1 : 1 ≤ n
  · have q1 : decide (1 ≤ n) = true := decide_eq_true h1
    go_enter Try.func95, Try.ntmps95
    go_wp2_with fail
    go_ret
    exact ⟨by simp [q1], rfl⟩
  · have q1 : decide (1 ≤ n) = false := decide_eq_false h1
    go_enter Try.func95, Try.ntmps95
    go_wp2_with fail
    go_ret
    exact ⟨by simp [q1], rfl⟩
theorem aspath_May.test (n : Int) (w : World) : Calls Try.prog 94 #[.int .i64 n] w fun e w' => e = .returned (.bool (!asB n)) ∧ Below w.heap.size w w' := by
  go_enter Try.func94, Try.ntmps94
  go_wp2_with fail
  refine (aspath_May.known n w).mono ?_; rintro e w' ⟨rfl, rfl⟩
  go_wp2_with fail
  go_ret
  exact ⟨rfl, Below.refl _ _⟩
set_option maxHeartbeats 1000000 in
set_option maxRecDepth 100000 in
theorem aspath_May.calls (A0 : Option Addr) (c0 : Nat) (l0 : List Int) (r : Bool) (w : World) (hr0 : Kd.C (Kd.int .i64) w A0 l0.length l0) (hc0 : l0.length ≤ c0) (h : aspath_May.f l0 = some r) :
    Calls Try.prog 68 #[.slice A0 l0.length c0] w fun e w' => e = .returned (.bool r) ∧ Below w.heap.size w w' := by
  unfold aspath_May.f at h
  obtain rfl := Option.some.inj h; have HR := mkHid hr0; clear h hr0
  by_cases hl : l0.length ≤ 16
  · have q1 : decide ((l0.length : Int) ≤ 16) = true := decide_eq_true (by omega)
    have q2 : decide (l0.length ≤ 16) = true := decide_eq_true hl
    go_enter Try.func68, Try.ntmps68
    go_wp2_with fail
    (refine (con_Int 94 #[] (fun n => !asB n) (fun _ => True) (fun _ _ _ _ => trivial) (fun _ _ => by go_simp) A0 c0 l0 (fun x _ W _ => aspath_May.test x W) _ HR.out trivial).mono ?_); rintro e w' ⟨rfl, hb⟩; have HB := mkHid hb; clear hb; generalize hg : (l0.any fun n => !asB n) = g; have HGE := mkHid hg; clear hg
    go_wp2_with fail
    go_ret
    exact ⟨by rw [q2, HGE.out]; rfl, HB.out⟩
  · have q1 : decide ((l0.length : Int) ≤ 16) = false := decide_eq_false (by omega)
    have q2 : decide (l0.length ≤ 16) = false := decide_eq_false hl
    go_enter Try.func68, Try.ntmps68
    go_wp2_with fail
    go_ret
    exact ⟨by rw [q2]; rfl, Below.refl _ _⟩

end Go.Proofs.Ytjmpojfpbhihpaa.P

end
