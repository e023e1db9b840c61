/- Part of the proof of RowWireSplits: what it asks of functions, words and plain facts (put together by this session's own program, wip/tools/shake.py). -/
import Derived.Test.YtjmpojfpbhihpaaZWireSplits0
import Derived.Test.YtjmpojfpbhihpaaProg
import Derived.WalkKit
import Derived.ProofKit
import Derived.WalkMore
import Derived.Deep.LoopGhost
import Derived.Deep.QuietTactic
import Derived.BigQuiet
import Derived.OneCell
import Derived.IntWalk
import Derived.Laws.AppendOwn
import Derived.Laws.OwnMore
import Derived.RegionTactic
import Derived.Deep.RegionLaw
import Derived.Deep.RegionHeld3
import Derived.Deep.AppendLies
import Derived.OwnWalk
import Derived.Below
import Derived.Laws.BytesString
import Derived.Laws.IdiomStrings
import Derived.Laws.BitsLemmas
import Derived.WideShapes
section
set_option linter.unusedVariables false
set_option linter.unusedSimpArgs false
namespace Go.Proofs.Ytjmpojfpbhihpaa
open Go.RowKit

theorem mkHid {p : Prop} (h : p) : Hid p := h
end Go.Proofs.Ytjmpojfpbhihpaa

end
section
set_option linter.unusedVariables false
set_option linter.unusedSimpArgs false
namespace Go.Proofs.Ytjmpojfpbhihpaa
open Go.RowKit Go.Proofs.YtjmpojfpbhihpaaW.PrintWords Go.Proofs.YtjmpojfpbhihpaaW.PrintLast Go.Proofs.YtjmpojfpbhihpaaW.PrintMore

/-- with rounds enough, r comes out -/
def Evt {α : Type} (g : Nat → Option α) (r : α) : Prop := ∃ K, ∀ k, K ≤ k → g k = some r
theorem Evt.ex {α : Type} {g : Nat → Option α} {r : α} (h : Evt g r) : ∃ k, g k = some r := h.imp fun K hK => hK K (Nat.le_refl _)
theorem Evt.pure {α : Type} (r : α) : Evt (fun _ => some r) r := ⟨0, fun _ _ => rfl⟩
theorem Evt.of {α : Type} {g : Nat → Option α} {r : α} (h : ∀ k, g k = some r) : Evt g r := ⟨0, fun k _ => h k⟩
theorem Evt.bind {α β : Type} {g : Nat → Option α} {f : Nat → α → Option β} {a : α} {b : β} (h : Evt g a) (h2 : Evt (fun k => f k a) b) : Evt (fun k => (g k).bind (f k)) b := by
  obtain ⟨K, h⟩ := h
  obtain ⟨L, h2⟩ := h2
  exact ⟨max K L, fun k hk => by show (g k).bind (f k) = some b; rw [h k (by omega)]; exact h2 k (by omega)⟩
theorem Evt.bindc {α β : Type} {o : Option α} {f : Nat → α → Option β} {a : α} {b : β} (h : o = some a) (h2 : Evt (fun k => f k a) b) : Evt (fun k => o.bind (f k)) b := by
  subst h; exact h2
theorem Evt.step {α : Type} {g : Nat → Option α} {r : α} (h : Evt (fun k => g (k + 1)) r) : Evt g r := by
  obtain ⟨K, h⟩ := h
  refine ⟨K + 1, fun k hk => ?_⟩
  obtain ⟨k, rfl⟩ : ∃ m, k = m + 1 := ⟨k - 1, by omega⟩
  exact h k (by omega)
theorem Evt.ite_pos {α : Type} {c : Prop} [Decidable c] {x y : Nat → Option α} {r : α} (hc : c) (h : Evt x r) : Evt (fun k => if c then x k else y k) r := by
  simp only [if_pos hc]; exact h
theorem Evt.ite_neg {α : Type} {c : Prop} [Decidable c] {x y : Nat → Option α} {r : α} (hc : ¬ c) (h : Evt y r) : Evt (fun k => if c then x k else y k) r := by
  simp only [if_neg hc]; exact h
theorem Evt.of_mono {α : Type} {g : Nat → Option α} {r : α} {K : Nat} (hm : ∀ k, LeO (g k) (g (k + 1))) (h : g K = some r) : Evt g r := by
  refine ⟨K, fun k hk => ?_⟩
  obtain ⟨d, rfl⟩ : ∃ d, k = K + d := ⟨k - K, by omega⟩
  clear hk
  induction d with
  | zero => exact h
  | succ d ih => exact hm _ _ ih
theorem wrap64_in (x : Int) (h0 : -9223372036854775808 ≤ x) (h1 : x ≤ 9223372036854775807) : wrap64 x = x := by unfold wrap64; omega

theorem mask_not (n : Nat) (hn : n ≤ 32) : ~~~(BitVec.ofInt 32 (4294967296 - 2 ^ n)) = BitVec.ofNat 32 (2 ^ n - 1) := by
  have : ∀ n : Fin 33, ~~~(BitVec.ofInt 32 (4294967296 - 2 ^ n.val)) = BitVec.ofNat 32 (2 ^ n.val - 1) := by decide +kernel
  exact this ⟨n, by omega⟩
theorem shl_all (n : Nat) (hn : n ≤ 32) : shl .u32 4294967295 n = 4294967296 - 2 ^ n := by
  have : ∀ n : Fin 33, 0 < n.val → shl .u32 4294967295 n.val = 4294967296 - 2 ^ n.val := by decide +kernel
  rcases Nat.eq_zero_or_pos n with rfl | h
  · decide +kernel
  · exact this ⟨n, by omega⟩ h
theorem ofN (x : Nat) : BitVec.ofInt 32 (x : Int) = BitVec.ofNat 32 x := by simp
theorem andNot_mask (a : Int) (n : Nat) (h0 : 0 ≤ a) (h1 : a < 4294967296) (hn : n ≤ 32) : bits .andNot .u32 a (4294967296 - 2 ^ n) = a % 2 ^ n := by
  obtain ⟨x, rfl⟩ := Int.eq_ofNat_of_zero_le h0
  show IntKind.u32.wrap ((BitVec.ofInt 32 (x : Int) &&& ~~~ BitVec.ofInt 32 (4294967296 - 2 ^ n)).toNat : Int) = _
  rw [mask_not n hn, IntKind.wrap_u32, ofN, BitVec.toNat_and, BitVec.toNat_ofNat, BitVec.toNat_ofNat]
  have hx : x % 2 ^ 32 = x := Nat.mod_eq_of_lt (by omega)
  have hp : 2 ^ n ≤ 2 ^ 32 := Nat.pow_le_pow_right (by decide) hn
  have hpos : 0 < 2 ^ n := Nat.two_pow_pos n
  have hq : (2 ^ n - 1) % 2 ^ 32 = 2 ^ n - 1 := Nat.mod_eq_of_lt (by omega)
  rw [hx, hq, Nat.and_two_pow_sub_one_eq_mod]
  have : x % 2 ^ n < 2 ^ n := Nat.mod_lt _ hpos
  have hz : (((x % 2 ^ n : Nat) : Int)) = (x : Int) % 2 ^ n := by simp
  rw [← hz]
  omega
end Go.Proofs.Ytjmpojfpbhihpaa

end
section
set_option linter.unusedVariables false
set_option linter.unusedSimpArgs false
namespace Go.Proofs.Ytjmpojfpbhihpaa
open Go.RowKit Go.Proofs.YtjmpojfpbhihpaaW.PrintWords Go.Proofs.YtjmpojfpbhihpaaW.PrintLast Go.Proofs.YtjmpojfpbhihpaaW.PrintMore

/-- a row that is read: its block, and its cells -/
theorem C_at {α : Type} {d : Kd α} {w : World} {A : Option Addr} {n : Nat} {xs : List α} (h : d.C w A n xs) (hs : 0 < d.sz) (hn : 0 < n) :
    ∃ b o, A = some ⟨b, o, none⟩ ∧ b < w.heap.size ∧ ∀ j x, xs[j]? = some x → ∃ c, c.length = d.sz ∧ d.K w x c ∧ ∀ i u, c[i]? = some u → w.cell? ⟨b, o + j * d.sz + i, none⟩ = some u := by
  obtain ⟨h1, h2, h3⟩ := h
  obtain ⟨⟨b, o, s⟩, rfl, hc⟩ := h3 hn
  obtain ⟨x, hx⟩ : ∃ x, xs[0]? = some x := ⟨_, List.getElem?_eq_getElem (h := by omega)⟩
  obtain ⟨c, c1, c2, c3⟩ := hc 0 x hx
  have k := c3 0 _ (List.getElem?_eq_getElem (h := by omega))
  have e : (⟨b, o, s⟩ : Addr).add (0 * d.sz + 0) = ⟨b, o, s⟩ := by rw [Nat.zero_mul]; simp [Addr.add]
  rw [e] at k
  have hsp : s = none := World.cell?_spot k
  subst hsp
  refine ⟨b, o, rfl, World.block_lt_of_cell? _ _ k, fun j x hj => ?_⟩
  obtain ⟨c, c1, c2, c3⟩ := hc j x hj
  refine ⟨c, c1, c2, fun i u hu => ?_⟩
  have := c3 i u hu
  rw [WideShapes.add_plain, ← Nat.add_assoc] at this
  exact this
/-- the first that meets a test; -1: none -/
def idxB {α : Type} (p : α → Bool) (l : List α) : Int := match l.findIdx? p with | some i => (i : Int) | none => -1
theorem idxB_at {α : Type} (p : α → Bool) (l : List α) (k : Nat) (x : α) (hx : l[k]? = some x) (hp : p x = true) (h : ∀ (i : Nat) (y : α), i < k → l[i]? = some y → p y = false) : idxB p l = (k : Int) := by
  unfold idxB
  obtain ⟨hk, e⟩ := List.getElem?_eq_some_iff.1 hx
  have : l.findIdx? p = some k := by
    rw [List.findIdx?_eq_some_iff_getElem]
    exact ⟨hk, by rw [e]; exact hp, fun j hj => by rw [h j _ hj (List.getElem?_eq_getElem (h := by omega))]; simp⟩
  rw [this]
theorem idxB_none {α : Type} (p : α → Bool) (l : List α) (h : ∀ (i : Nat) (y : α), l[i]? = some y → p y = false) : idxB p l = -1 := by
  unfold idxB
  have : l.findIdx? p = none := by
    rw [List.findIdx?_eq_none_iff]
    intro x hx
    obtain ⟨i, hi⟩ := List.getElem?_of_mem hx
    exact h i x hi
  rw [this]
theorem idxB_any {α : Type} (p : α → Bool) (l : List α) : decide (0 ≤ idxB p l) = l.any p := by
  unfold idxB
  cases h : l.findIdx? p with
  | none =>
    rw [List.findIdx?_eq_none_iff] at h
    symm
    show l.any p = decide ((0 : Int) ≤ -1)
    rw [show decide ((0 : Int) ≤ -1) = false from rfl, List.any_eq_false]
    intro x hx
    rw [h x hx]; simp
  | some i =>
    obtain ⟨hi, hp, _⟩ := List.findIdx?_eq_some_iff_getElem.1 h
    symm
    show l.any p = decide ((0 : Int) ≤ (i : Int))
    rw [decide_eq_true (by omega), List.any_eq_true]
    exact ⟨_, List.getElem_mem hi, hp⟩
/-- how two lists stand to one another -/
def cmpLst {α : Type} (o : α → α → Int) : List α → List α → Int
  | [], [] => 0
  | [], _ :: _ => -1
  | _ :: _, [] => 1
  | x :: a, y :: b => if o x y ≠ 0 then o x y else cmpLst o a b
/-- a row of numbers that is made out of its elements -/
theorem C_lit (k : IntKind) (w : World) (xs : List Int) (t : TypeId) (hn : xs.length ≤ 9223372036854775807) : Kd.C (Kd.int k) (w.alloc (.cells (xs.map (Value.int k)).toArray t)) (some ⟨w.heap.size, 0, none⟩) xs.length xs := by
  refine ⟨rfl, hn, fun _ => ⟨_, rfl, fun j p hj => ⟨[.int k p], rfl, rfl, fun i u hu => ?_⟩⟩⟩
  match i with
  | 0 =>
    simp at hu
    subst hu
    rw [WideShapes.add_plain, World.cell?_alloc_mark]
    simp [Kd.int, Kd.scalar, hj]
  | i + 1 => simp at hu
/-- a row of flat elements of one's own, out of its cells -/
theorem flat_own {α : Type} {d : Kd α} {e n : Nat} {w w1 : World} {base : Nat} {v : Value} {xs : List α} {inner : List Value} (hf : ∀ {w : World} {x : α} {c : List Value}, d.K w x c → ∀ w1 b ok, d.M w1 b ok x c)
    (h : w1.ownsRow base e d.sz v n inner) (hn : n = xs.length) (hr : Reps (d.K w) d.sz xs inner) : d.R e w1 base (fun _ => True) v xs := by
  subst hn
  exact ⟨fun _ _ => trivial, inner, h, hr.1, fun j p hj => hf (hr.2 j p hj) _ _ _⟩
theorem Reps.one_ {α : Type} {d : Kd α} {w : World} {xs : List α} {inner : List Value} (hr : Reps (d.K w) d.sz xs inner) (hs : 0 < d.sz) : ∀ u ∈ inner, u.oneCell' = true := by
  intro u hu
  obtain ⟨i, hi⟩ := List.getElem?_of_mem hu
  have hlt := (List.getElem?_eq_some_iff.1 hi).1
  rw [hr.1] at hlt
  have hj : i / d.sz < xs.length := by rw [Nat.div_lt_iff_lt_mul hs]; exact hlt
  have hk := hr.2 (i / d.sz) _ (List.getElem?_eq_getElem hj)
  refine d.K_one hk u ?_
  refine List.mem_of_getElem? (i := i % d.sz) ?_
  rw [List.getElem?_take_of_lt (Nat.mod_lt _ hs), List.getElem?_drop, Nat.mul_comm, Nat.div_add_mod]
  exact hi
end Go.Proofs.Ytjmpojfpbhihpaa

end
section
set_option linter.unusedVariables false
set_option linter.unusedSimpArgs false
namespace Go.Proofs.Ytjmpojfpbhihpaa.P
open Go.RowKit Go.Proofs.YtjmpojfpbhihpaaW.PrintWords Go.Proofs.YtjmpojfpbhihpaaW.PrintLast Go.Proofs.YtjmpojfpbhihpaaW.PrintMore

set_option maxHeartbeats 4000000 in
set_option maxRecDepth 100000 in
theorem cmpf_Comm (fid : Nat) (o : S102 → S102 → Int) (hen : ∀ (args : Array Value) (W : World), (callFunc fid args).run Try.prog W = .ok (.enter fid args) W)
    (hcmp : ∀ (x y : S102) (W : World), Calls Try.prog fid #[.agg #[.int .i64 x.f0, .int .i64 x.f1], .agg #[.int .i64 y.f0, .int .i64 y.f1]] W fun e w' => e = .returned (.int .i64 (o x y)) ∧ Below W.heap.size W w')
    (A0 : Option Addr) (c0 : Nat) (l0 : List S102) (A1 : Option Addr) (c1 : Nat) (l1 : List S102) (w : World) (hr0 : Kd.C k102 w A0 l0.length l0) (hr1 : Kd.C k102 w A1 l1.length l1) :
    Calls Try.prog 105 #[.slice A0 l0.length c0, .slice A1 l1.length c1, .func (.func fid) #[] #[]] w fun e w' => e = .returned (.int .i64 (cmpLst o l0 l1)) ∧ Below w.heap.size w w' := by
  have hlm0 : l0.length ≤ 9223372036854775807 := Kd.C_max hr0
  have hlm1 : l1.length ≤ 9223372036854775807 := Kd.C_max hr1
  have HC := mkHid hcmp
  have HR0 := mkHid hr0
  have HR1 := mkHid hr1
  clear hcmp hr0 hr1
  generalize hD : cmpLst o l0 l1 = D
  have HD := mkHid hD
  clear hD
  go_enter Try.func105, Try.ntmps105
  go_wp2_with fail
  go_loopg [13] l0.length (fun kq v13 wr => ∃ k : Int, v13 = .int .i64 k ∧ 0 ≤ k ∧ k ≤ l0.length ∧ k ≤ l1.length ∧ Hid (k + kq = l0.length) ∧ Hid (cmpLst o (l0.drop k.toNat) (l1.drop k.toNat) = D) ∧ Hid (Below w.heap.size w wr))
  case atStart => exact ⟨0, rfl, by omega, by omega, by omega, by unfold Hid; omega, HD.out, Below.refl _ _⟩
  case round =>
    obtain ⟨k, rfl, k0, kn, kn1, hk, hcl, hB⟩ := hrel
    have hk1 := hk.out
    by_cases hkn : k < l0.length
    · have q1 : decide (k < (l0.length : Int)) = true := decide_eq_true hkn
      obtain ⟨x, hx⟩ : ∃ x, l0[k.toNat]? = some x := ⟨_, List.getElem?_eq_getElem (h := by omega)⟩
      obtain ⟨g, ob, rfl, hg, hcells⟩ := C_at (Kd.C_below HR0.out hB.out) (by decide) (by omega)
      obtain ⟨cs, _, hK, hcc⟩ := hcells _ _ hx
      have e := k102_open hK
      replace e : cs = [.int .i64 x.f0, .int .i64 x.f1] := e
      subst e
      have d0 : wr.cell? ⟨g, ob + k.toNat * 2 + 0, none⟩ = some (.int .i64 x.f0) := hcc 0 _ rfl
      have d1 : wr.cell? ⟨g, ob + k.toNat * 2 + 1, none⟩ = some (.int .i64 x.f1) := hcc 1 _ rfl

      clear hcc hcells hK
      try rw [Nat.add_zero] at d0
      try rw [Nat.mul_one] at d0
      have hdx : l0.drop k.toNat = x :: l0.drop (k.toNat + 1) := by
        obtain ⟨hh, e⟩ := List.getElem?_eq_some_iff.1 hx
        rw [List.drop_eq_getElem_cons hh, e]
      have HDX := mkHid hdx
      clear hx hdx
      by_cases hk2 : k < l1.length
      · have q2 : decide ((l1.length : Int) ≤ k) = false := decide_eq_false (by omega)
        have q2' : decide (k < (l1.length : Int)) = true := decide_eq_true hk2
        obtain ⟨y, hy⟩ : ∃ y, l1[k.toNat]? = some y := ⟨_, List.getElem?_eq_getElem (h := by omega)⟩
        obtain ⟨g2, ob2, rfl, hg2, hcells⟩ := C_at (Kd.C_below HR1.out hB.out) (by decide) (by omega)
        obtain ⟨cs, _, hK, hcc⟩ := hcells _ _ hy
        have e := k102_open hK
        replace e : cs = [.int .i64 y.f0, .int .i64 y.f1] := e
        subst e
        have f0 : wr.cell? ⟨g2, ob2 + k.toNat * 2 + 0, none⟩ = some (.int .i64 y.f0) := hcc 0 _ rfl
        have f1 : wr.cell? ⟨g2, ob2 + k.toNat * 2 + 1, none⟩ = some (.int .i64 y.f1) := hcc 1 _ rfl

        clear hcc hcells hK
        try rw [Nat.add_zero] at f0
        try rw [Nat.mul_one] at f0
        have hdy : l1.drop k.toNat = y :: l1.drop (k.toNat + 1) := by
          obtain ⟨hh, e⟩ := List.getElem?_eq_some_iff.1 hy
          rw [List.drop_eq_getElem_cons hh, e]
        have HDY := mkHid hdy
        have hw1 : IntKind.i64.wrap (k + 1) = k + 1 := IntWalk.i64_in _ (by omega)
        have hne1 : g ≠ wr.heap.size := by omega
        have hne2 : g2 ≠ wr.heap.size := by omega
        clear hy hdy
        have hc := hcl.out
        rw [HDX.out, HDY.out] at hc
        unfold cmpLst at hc
        by_cases h0 : o x y = 0
        · rw [if_neg (by rw [h0]; simp)] at hc
          have HC0 := mkHid hc
          have H0 := mkHid h0
          clear hc h0
          go_wp2_with fail
          refine (HC.out x y _).mono ?_
          rintro e w' ⟨rfl, hb⟩
          have HB2 : Hid (Below w.heap.size w w') := below_step (by repeat (first | exact hB.out | apply below_alloc)) hb
          clear hb
          rw [H0.out]
          go_wp2_with fail
          go_roundg (gk - 1)
          case measure => omega
          case rel =>
            refine ⟨k + 1, rfl, by omega, by omega, by omega, by unfold Hid; omega, ?_, HB2.out⟩
            have e : (k + 1).toNat = k.toNat + 1 := by omega
            show cmpLst o (l0.drop (k + 1).toNat) (l1.drop (k + 1).toNat) = D
            rw [e]; exact HC0.out
        · rw [if_pos h0] at hc
          have HC0 := mkHid hc
          have q3 : (D == 0) = false := by rw [← hc]; simpa using h0
          have q3' : (D != 0) = true := by rw [← hc]; simpa using h0
          clear hc h0
          go_wp2_with fail
          refine (HC.out x y _).mono ?_
          rintro e w' ⟨rfl, hb⟩
          have HB2 : Hid (Below w.heap.size w w') := below_step (by repeat (first | exact hB.out | apply below_alloc)) hb
          clear hb
          rw [HC0.out]
          go_wp2_with fail
          go_ret
          exact ⟨rfl, HB2.out⟩
      · have q2 : decide ((l1.length : Int) ≤ k) = true := decide_eq_true (by omega)
        have hc := hcl.out
        rw [HDX.out, (List.drop_eq_nil_iff.2 (by omega) : l1.drop k.toNat = [])] at hc
        have hc1 : (1 : Int) = D := hc
        have HC1 := mkHid hc1
        clear hc hc1
        go_wp2_with fail
        go_ret
        refine ⟨by rw [← HC1.out]; rfl, ?_⟩
        repeat (first | exact hB.out | apply below_alloc)
    · have q1 : decide (k < (l0.length : Int)) = false := decide_eq_false (by omega)
      have hc := hcl.out
      rw [(List.drop_eq_nil_iff.2 (by omega) : l0.drop k.toNat = [])] at hc
      by_cases hk2 : l0.length < l1.length
      · have q2 : decide (l0.length < l1.length) = true := decide_eq_true hk2
        have q2' : decide ((l0.length : Int) < (l1.length : Int)) = true := decide_eq_true (by omega)
        obtain ⟨y, hy⟩ : ∃ y, l1[k.toNat]? = some y := ⟨_, List.getElem?_eq_getElem (h := by omega)⟩
        obtain ⟨hh, e⟩ := List.getElem?_eq_some_iff.1 hy
        rw [List.drop_eq_getElem_cons hh] at hc
        have hc1 : (-1 : Int) = D := hc
        have HC1 := mkHid hc1
        clear hc hc1 hy e
        go_wp2_with fail
        go_ret
        exact ⟨by rw [← HC1.out]; rfl, hB.out⟩
      · have q2 : decide (l0.length < l1.length) = false := decide_eq_false hk2
        have q2' : decide ((l0.length : Int) < (l1.length : Int)) = false := decide_eq_false (by omega)
        rw [(List.drop_eq_nil_iff.2 (by omega) : l1.drop k.toNat = [])] at hc
        have hc1 : (0 : Int) = D := hc
        have HC1 := mkHid hc1
        clear hc hc1
        go_wp2_with fail
        go_ret
        exact ⟨by rw [← HC1.out]; rfl, hB.out⟩
end Go.Proofs.Ytjmpojfpbhihpaa.P

end
section
set_option linter.unusedVariables false
set_option linter.unusedSimpArgs false
namespace Go.Proofs.Ytjmpojfpbhihpaa.P
open Go.RowKit Go.Proofs.YtjmpojfpbhihpaaW.PrintWords Go.Proofs.YtjmpojfpbhihpaaW.PrintLast Go.Proofs.YtjmpojfpbhihpaaW.PrintMore

set_option maxHeartbeats 2000000 in
set_option maxRecDepth 100000 in
theorem idx_Int (fid : Nat) (cap : Array Value) (p : Int → Bool) (Inv : World → Prop) (hInv : ∀ W W', Inv W → Below W.heap.size W W' → Inv W')
    (hen : ∀ (args : Array Value) (W : World), (callFunc fid args).run Try.prog W = .ok (.enter fid args) W)
    (A : Option Addr) (c : Nat) (l : List Int) (hcl : ∀ x, x ∈ l → ∀ W, Inv W → Calls Try.prog fid (#[.int .i64 x] ++ cap) W fun e w' => e = .returned (.bool (p x)) ∧ Below W.heap.size W w')
    (w : World) (hr : Kd.C (Kd.int .i64) w A l.length l) (hI : Inv w) :
    Calls Try.prog 106 #[.slice A l.length c, .func (.func fid) #[] cap] w fun e w' => e = .returned (.int .i64 (idxB p l)) ∧ Below w.heap.size w w' := by
  have hlm : l.length ≤ 9223372036854775807 := Kd.C_max hr
  have HC := mkHid hcl
  have HR := mkHid hr
  have HI := mkHid hInv
  have HI0 := mkHid hI
  clear hcl hr hInv hI
  go_enter Try.func106, Try.ntmps106
  go_wp2_with fail
  go_loopg [8] l.length (fun kq v8 wr => ∃ k : Int, v8 = .int .i64 k ∧ 0 ≤ k ∧ k ≤ l.length ∧ Hid (k + kq = l.length) ∧ Hid (∀ (i : Nat) (x : Int), i < k.toNat → l[i]? = some x → p x = false) ∧ Hid (Below w.heap.size w wr))
  case atStart => exact ⟨0, rfl, by omega, by omega, by unfold Hid; omega, fun i x hi => by simp at hi, Below.refl _ _⟩
  case round =>
    obtain ⟨k, rfl, k0, kn, hk, hall, hB⟩ := hrel
    have hk1 := hk.out
    by_cases hkn : k < l.length
    · obtain ⟨x, hx⟩ : ∃ x, l[k.toNat]? = some x := ⟨_, List.getElem?_eq_getElem (h := by omega)⟩
      obtain ⟨g, o, rfl, hg, hcells⟩ := C_at (Kd.C_below HR.out hB.out) (by decide) (by omega)
      obtain ⟨cs, _, hK, hcc⟩ := hcells _ _ hx
      have e := id hK
      replace e : cs = [.int .i64 x] := e
      subst e
      have d0 : wr.cell? ⟨g, o + k.toNat * 1 + 0, none⟩ = some (.int .i64 x) := hcc 0 _ rfl

      clear hcc hcells hK
      try rw [Nat.add_zero] at d0
      try rw [Nat.mul_one] at d0
      have q1 : decide (k < (l.length : Int)) = true := decide_eq_true hkn
      have hw1 : IntKind.i64.wrap (k + 1) = k + 1 := IntWalk.i64_in _ (by omega)
      have HX := mkHid hx
      have hIr := mkHid (HI.out _ _ HI0.out hB.out)
      clear hx
      cases hpx : p x with
      | true =>
        have HPX := mkHid hpx
        clear hpx
        go_wp2_with fail
        refine (HC.out x (List.mem_of_getElem? HX.out) _ hIr.out).mono ?_
        rintro e w' ⟨rfl, hb⟩
        have HB2 : Hid (Below w.heap.size w w') := below_step hB.out hb
        clear hb
        rw [HPX.out]
        go_wp2_with fail
        go_ret
        refine ⟨?_, HB2.out⟩
        have := idxB_at p l k.toNat x HX.out HPX.out hall.out
        rw [this]
        have e : ((k.toNat : Nat) : Int) = k := by omega
        rw [e]; rfl
      | false =>
        have HPX := mkHid hpx
        clear hpx
        go_wp2_with fail
        refine (HC.out x (List.mem_of_getElem? HX.out) _ hIr.out).mono ?_
        rintro e w' ⟨rfl, hb⟩
        have HB2 : Hid (Below w.heap.size w w') := below_step hB.out hb
        clear hb
        rw [HPX.out]
        go_wp2_with fail
        go_roundg (gk - 1)
        case measure => omega
        case rel =>
          refine ⟨k + 1, rfl, by omega, by omega, by unfold Hid; omega, fun i y hi hy => ?_, HB2.out⟩
          by_cases hik : i < k.toNat
          · exact hall.out i y hik hy
          · have : i = k.toNat := by omega
            subst this
            rw [HX.out] at hy
            cases hy
            exact HPX.out
    · have q1 : decide (k < (l.length : Int)) = false := decide_eq_false (by omega)
      go_wp2_with fail
      go_ret
      refine ⟨?_, hB.out⟩
      rw [idxB_none p l (fun i x hx => hall.out i x (by have := (List.getElem?_eq_some_iff.1 hx).1; omega) hx)]
      rfl

end Go.Proofs.Ytjmpojfpbhihpaa.P

end
section
set_option linter.unusedVariables false
set_option linter.unusedSimpArgs false
namespace Go.Proofs.Ytjmpojfpbhihpaa.P
open Go.RowKit Go.Proofs.YtjmpojfpbhihpaaW.PrintWords Go.Proofs.YtjmpojfpbhihpaaW.PrintLast Go.Proofs.YtjmpojfpbhihpaaW.PrintMore

set_option maxHeartbeats 2000000 in
set_option maxRecDepth 100000 in
theorem con_Int (fid : Nat) (cap : Array Value) (p : Int → Bool) (Inv : World → Prop) (hInv : ∀ W W', Inv W → Below W.heap.size W W' → Inv W')
    (hen : ∀ (args : Array Value) (W : World), (callFunc fid args).run Try.prog W = .ok (.enter fid args) W)
    (A : Option Addr) (c : Nat) (l : List Int) (hcl : ∀ x, x ∈ l → ∀ W, Inv W → Calls Try.prog fid (#[.int .i64 x] ++ cap) W fun e w' => e = .returned (.bool (p x)) ∧ Below W.heap.size W w')
    (w : World) (hr : Kd.C (Kd.int .i64) w A l.length l) (hI : Inv w) :
    Calls Try.prog 93 #[.slice A l.length c, .func (.func fid) #[] cap] w fun e w' => e = .returned (.bool (l.any p)) ∧ Below w.heap.size w w' := by
  have HI := mkHid (idx_Int fid cap p Inv hInv hen A c l hcl w hr hI)
  clear hcl hr hInv hI hen
  go_enter Try.func93, Try.ntmps93
  go_wp2_with fail
  refine HI.out.mono ?_
  rintro e w' ⟨rfl, hb⟩
  have HB := mkHid hb
  clear hb
  generalize hi : idxB p l = i
  have HE := mkHid hi
  clear hi
  go_wp2_with fail
  go_ret
  refine ⟨?_, HB.out⟩
  rw [← idxB_any p l, HE.out]; rfl
end Go.Proofs.Ytjmpojfpbhihpaa.P

end
