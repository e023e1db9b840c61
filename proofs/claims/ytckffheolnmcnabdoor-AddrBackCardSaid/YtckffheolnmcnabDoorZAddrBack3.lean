/- Part of the proof of RowAddrBack: what it asks of functions, words and plain facts (put together by this session's own program, wip/tools/shake.py). -/
import Derived.Test.YtckffheolnmcnabDoorZAddrBack0
import Derived.Test.YtckffheolnmcnabDoorZAddrBack1
import Derived.Test.YtckffheolnmcnabDoorZAddrBack2
import Derived.Laws.BitsLemmas
import Derived.Sort.Grow
import Derived.Shelf.SlSortCmp.NoneTotal
import Derived.Ground.SlsfProg
import Derived.Test.YtckffheolnmcnabDoorProg
import Derived.RangeFuncNested
import Derived.RangeFuncBox
import Derived.RangeFuncLeaves
import Derived.Shelf.Abstract
import Derived.OwnWalkIn
import Derived.TacticsInMore
import Derived.LoopNIn
import Derived.LoopIn
import Derived.Maps.AppendAt
import Derived.Laws.CopyRow
import Derived.Laws.IdiomCopy
import Derived.Lib.ConvBytes
section
set_option linter.unusedVariables false
set_option linter.unusedSimpArgs false
namespace Go.Proofs.YtckffheolnmcnabDoor
open Go.RowKit Go.Proofs.YtckffheolnmcnabDoorW.PrintWords Go.Proofs.YtckffheolnmcnabDoorW.PrintLast Go.Proofs.YtckffheolnmcnabDoorW.PrintMore

/-- with rounds enough, r comes out -/
def Evt {α : Type} (g : Nat → Option α) (r : α) : Prop := ∃ K, ∀ k, K ≤ k → g k = some r
theorem Evt.ex {α : Type} {g : Nat → Option α} {r : α} (h : Evt g r) : ∃ k, g k = some r := h.imp fun K hK => hK K (Nat.le_refl _)
theorem Evt.pure {α : Type} (r : α) : Evt (fun _ => some r) r := ⟨0, fun _ _ => rfl⟩
theorem Evt.of {α : Type} {g : Nat → Option α} {r : α} (h : ∀ k, g k = some r) : Evt g r := ⟨0, fun k _ => h k⟩
theorem Evt.bind {α β : Type} {g : Nat → Option α} {f : Nat → α → Option β} {a : α} {b : β} (h : Evt g a) (h2 : Evt (fun k => f k a) b) : Evt (fun k => (g k).bind (f k)) b := by
  obtain ⟨K, h⟩ := h
  obtain ⟨L, h2⟩ := h2
  exact ⟨max K L, fun k hk => by show (g k).bind (f k) = some b; rw [h k (by omega)]; exact h2 k (by omega)⟩
theorem Evt.bindc {α β : Type} {o : Option α} {f : Nat → α → Option β} {a : α} {b : β} (h : o = some a) (h2 : Evt (fun k => f k a) b) : Evt (fun k => o.bind (f k)) b := by
  subst h; exact h2
theorem Evt.step {α : Type} {g : Nat → Option α} {r : α} (h : Evt (fun k => g (k + 1)) r) : Evt g r := by
  obtain ⟨K, h⟩ := h
  refine ⟨K + 1, fun k hk => ?_⟩
  obtain ⟨k, rfl⟩ : ∃ m, k = m + 1 := ⟨k - 1, by omega⟩
  exact h k (by omega)
theorem Evt.ite_pos {α : Type} {c : Prop} [Decidable c] {x y : Nat → Option α} {r : α} (hc : c) (h : Evt x r) : Evt (fun k => if c then x k else y k) r := by
  simp only [if_pos hc]; exact h
theorem Evt.ite_neg {α : Type} {c : Prop} [Decidable c] {x y : Nat → Option α} {r : α} (hc : ¬ c) (h : Evt y r) : Evt (fun k => if c then x k else y k) r := by
  simp only [if_neg hc]; exact h
theorem Evt.of_mono {α : Type} {g : Nat → Option α} {r : α} {K : Nat} (hm : ∀ k, LeO (g k) (g (k + 1))) (h : g K = some r) : Evt g r := by
  refine ⟨K, fun k hk => ?_⟩
  obtain ⟨d, rfl⟩ : ∃ d, k = K + d := ⟨k - K, by omega⟩
  clear hk
  induction d with
  | zero => exact h
  | succ d ih => exact hm _ _ ih
theorem wrap64_in (x : Int) (h0 : -9223372036854775808 ≤ x) (h1 : x ≤ 9223372036854775807) : wrap64 x = x := by unfold wrap64; omega

theorem mask_not (n : Nat) (hn : n ≤ 32) : ~~~(BitVec.ofInt 32 (4294967296 - 2 ^ n)) = BitVec.ofNat 32 (2 ^ n - 1) := by
  have : ∀ n : Fin 33, ~~~(BitVec.ofInt 32 (4294967296 - 2 ^ n.val)) = BitVec.ofNat 32 (2 ^ n.val - 1) := by decide +kernel
  exact this ⟨n, by omega⟩
theorem shl_all (n : Nat) (hn : n ≤ 32) : shl .u32 4294967295 n = 4294967296 - 2 ^ n := by
  have : ∀ n : Fin 33, 0 < n.val → shl .u32 4294967295 n.val = 4294967296 - 2 ^ n.val := by decide +kernel
  rcases Nat.eq_zero_or_pos n with rfl | h
  · decide +kernel
  · exact this ⟨n, by omega⟩ h
theorem ofN (x : Nat) : BitVec.ofInt 32 (x : Int) = BitVec.ofNat 32 x := by simp
theorem andNot_mask (a : Int) (n : Nat) (h0 : 0 ≤ a) (h1 : a < 4294967296) (hn : n ≤ 32) : bits .andNot .u32 a (4294967296 - 2 ^ n) = a % 2 ^ n := by
  obtain ⟨x, rfl⟩ := Int.eq_ofNat_of_zero_le h0
  show IntKind.u32.wrap ((BitVec.ofInt 32 (x : Int) &&& ~~~ BitVec.ofInt 32 (4294967296 - 2 ^ n)).toNat : Int) = _
  rw [mask_not n hn, IntKind.wrap_u32, ofN, BitVec.toNat_and, BitVec.toNat_ofNat, BitVec.toNat_ofNat]
  have hx : x % 2 ^ 32 = x := Nat.mod_eq_of_lt (by omega)
  have hp : 2 ^ n ≤ 2 ^ 32 := Nat.pow_le_pow_right (by decide) hn
  have hpos : 0 < 2 ^ n := Nat.two_pow_pos n
  have hq : (2 ^ n - 1) % 2 ^ 32 = 2 ^ n - 1 := Nat.mod_eq_of_lt (by omega)
  rw [hx, hq, Nat.and_two_pow_sub_one_eq_mod]
  have : x % 2 ^ n < 2 ^ n := Nat.mod_lt _ hpos
  have hz : (((x % 2 ^ n : Nat) : Int)) = (x : Int) % 2 ^ n := by simp
  rw [← hz]
  omega
theorem or_join (x y : Int) (n : Nat) (hn : n ≤ 32) (hx₀ : 0 ≤ x) (hx : x % 2 ^ n = 0) (hx₁ : x < 4294967296) (hy₀ : 0 ≤ y) (hy : y < 2 ^ n) : bits .or .u32 x y = x + y := by
  have hp : (2 : Int) ^ n ≤ 2 ^ 32 := by
    have := Nat.pow_le_pow_right (n := 2) (by decide) hn
    have h2 : (((2 : Nat) ^ n : Nat) : Int) ≤ (((2 : Nat) ^ 32 : Nat) : Int) := by exact_mod_cast this
    simpa using h2
  exact bits_join .u32 32 (by decide) (fun n h0 h1 => by rw [IntKind.wrap_u32]; omega) n x y hx₀ hx (by omega) hy₀ hy (by omega)
end Go.Proofs.YtckffheolnmcnabDoor

end
section
namespace Go.Proofs.YtckffheolnmcnabDoor.P
open Go.RowKit Go.Proofs.YtckffheolnmcnabDoorW.PrintWords Go.Proofs.YtckffheolnmcnabDoorW.PrintLast Go.Proofs.YtckffheolnmcnabDoorW.PrintMore
attribute [local go_sem] max2_int min2_int max_two min_two max_three min_three max_four min_four   -- for this text's walks alone
set_option linter.unusedVariables false
set_option linter.unusedSimpArgs false

def cmp_Or_int.l0 : Nat → Int → List Int → Int → Int → Option (Int)
  | 0, _, _, _, _ => none
  | k + 1, x3, x6, x7, x8 => if x8 < x7 then (if 0 ≤ x8 then (if x8 < (x6.length : Int) then (if (rd x6 x8) = x3 then (cmp_Or_int.l0 k x3 x6 x7 (wrap64 (x8 + 1))) else (some (rd x6 x8))) else (none)) else (none)) else (some x3)
def cmp_Or_int.f (k : Nat) (l0 : List Int) : Option (Int) := cmp_Or_int.l0 k 0 l0 (l0.length : Int) 0
set_option maxHeartbeats 8000000 in
set_option maxRecDepth 100000 in
theorem cmp_Or_int.calls (k : Nat) (A0 : Option Addr) (c0 : Nat) (l0 : List Int) (r : Int) (w : World) (hr0 : Kd.C (Kd.int .i64) w A0 l0.length l0) (hc0 : l0.length ≤ c0) (h : cmp_Or_int.f k l0 = some r) :
    Calls Tryd.prog 26 #[.slice A0 l0.length c0] w fun e w' => e = .returned (.int .i64 r) ∧ Drawn0 w w' := by
  have HR0 := Aside0.mk hr0
  have HC0 := Aside0.mk hc0
  clear hr0 hc0
  have H : (cmp_Or_int.l0 k 0 l0 (l0.length : Int) 0) = some r := h
  clear h
  have H' := Aside0.mk H
  clear H
  go_enter Tryd.func26, Tryd.ntmps26
  go_wp2
  go_loopg [8] k (fun kq v8 w' => ∃ (x8_1 : Int), v8 = .int .i64 x8_1 ∧ Aside0 (cmp_Or_int.l0 kq 0 l0 (l0.length : Int) x8_1 = some r) ∧ Aside0 (kq ≤ k) ∧ Drawn0 w w')
  case atStart => exact ⟨(0), (by first | rfl | (simp; done) | (simp [*]; done)), H', ⟨Nat.le_refl _⟩, by repeat (first | exact Drawn0.refl _ | apply Drawn0.step)⟩
  case round =>
    clear H'
    obtain ⟨x8_1, rfl, HA, HK1, ⟨m1, rfl⟩⟩ := hrel
    cases gk with
    | zero => exact absurd HA.out (by simp [cmp_Or_int.l0])
    | succ k1 =>
      have H := HA.out
      clear HA
      simp only [cmp_Or_int.l0] at H
      by_cases c2 : x8_1 < (l0.length : Int)
      · rw [if_pos c2] at H
        have c2b0 : decide (x8_1 < (l0.length : Int)) = true := decide_eq_true c2
        clear c2
        by_cases c3 : 0 ≤ x8_1
        · rw [if_pos c3] at H
          have c3b0 : decide (0 ≤ x8_1) = true := decide_eq_true c3
          clear c3
          by_cases c4 : x8_1 < (l0.length : Int)
          · rw [if_pos c4] at H
            have c4b0 : decide (x8_1 < (l0.length : Int)) = true := decide_eq_true c4
            clear c4
            by_cases c5 : (rd l0 x8_1) = 0
            · rw [if_pos c5] at H
              have c5b0 : ((rd l0 x8_1) == 0) = true := beq_iff_eq.mpr c5
              have c5b1 : ((rd l0 x8_1) != 0) = false := bne_eq_false_iff_eq.mpr c5
              clear c5
              have H' := Aside0.mk H
              clear H
              have p133 : 0 ≤ (x8_1 : Int) := of_decide_eq_true (by first | (with_reducible assumption) | assumption)
              have q133 : x8_1 < (l0.length : Int) := of_decide_eq_true (by first | (with_reducible assumption) | assumption)
              obtain ⟨ad133, e133, hx133_0⟩ := Kd.at_int HR0.out x8_1 p133 q133
              cases e133
              replace p133 := eq_true p133
              replace q133 := eq_true q133
              go_wp2
              go_roundg k1
              case measure => have := HK1.out; omega
              case rel => exact ⟨(wrap64 (x8_1 + 1)), (by first | rfl | (simp; done) | (simp [*]; done)), H', ⟨by have := HK1.out; omega⟩, by repeat (first | exact Drawn0.refl _ | apply Drawn0.step)⟩
            · rw [if_neg c5] at H
              have c5b0 : ((rd l0 x8_1) == 0) = false := beq_eq_false_iff_ne.mpr c5
              have c5b1 : ((rd l0 x8_1) != 0) = true := bne_iff_ne.mpr c5
              obtain rfl := Option.some.inj H
              have p133 : 0 ≤ (x8_1 : Int) := of_decide_eq_true (by first | (with_reducible assumption) | assumption)
              have q133 : x8_1 < (l0.length : Int) := of_decide_eq_true (by first | (with_reducible assumption) | assumption)
              obtain ⟨ad133, e133, hx133_0⟩ := Kd.at_int HR0.out x8_1 p133 q133
              cases e133
              replace p133 := eq_true p133
              replace q133 := eq_true q133
              go_wp2
              go_ret
              exact ⟨by first | rfl | (simp; done) | (simp [*]; done), by repeat (first | exact Drawn0.refl _ | apply Drawn0.step)⟩
          · rw [if_neg c4] at H
            exact absurd H (by simp)
        · rw [if_neg c3] at H
          exact absurd H (by simp)
      · rw [if_neg c2] at H
        have c2b0 : decide (x8_1 < (l0.length : Int)) = false := decide_eq_false c2
        clear c2
        obtain rfl := Option.some.inj H
        go_wp2
        go_ret
        exact ⟨by first | rfl | (simp; done) | (simp [*]; done), by repeat (first | exact Drawn0.refl _ | apply Drawn0.step)⟩

def cmp_isNaN_uint32.f (a0 : Int) : Option (Bool) := some (a0 != a0)
set_option maxHeartbeats 8000000 in
set_option maxRecDepth 100000 in
theorem cmp_isNaN_uint32.calls (a0 : Int) (r : Bool) (w : World) (h : cmp_isNaN_uint32.f a0 = some r) :
    Calls Tryd.prog 40 #[.int .u32 a0] w fun e w' => e = .returned (.bool r) ∧ Drawn0 w w' := by
  have H : (some (a0 != a0)) = some r := h
  clear h
  obtain rfl := Option.some.inj H
  go_enter Tryd.func40, Tryd.ntmps40
  go_wp2
  go_ret
  exact ⟨by first | rfl | (simp; done) | (simp [*]; done), by repeat (first | exact Drawn0.refl _ | apply Drawn0.step)⟩

def cmp_Compare_uint32.f (a0 : Int) (a1 : Int) : Option (Int) := (cmp_isNaN_uint32.f a0).bind fun t134 => ((cmp_isNaN_uint32.f a1).bind fun t135 => (if t134 = true then (if t135 = true then (some 0) else (some (-1))) else (if t135 = true then (some 1) else (if a0 < a1 then (some (-1)) else (if a0 > a1 then (some 1) else (some 0))))))
set_option maxHeartbeats 8000000 in
set_option maxRecDepth 100000 in
theorem cmp_Compare_uint32.calls (a0 : Int) (a1 : Int) (r : Int) (w : World) (h : cmp_Compare_uint32.f a0 a1 = some r) :
    Calls Tryd.prog 27 #[.int .u32 a0, .int .u32 a1] w fun e w' => e = .returned (.int .i64 r) ∧ Drawn0 w w' := by
  have H : ((cmp_isNaN_uint32.f a0).bind fun t134 => ((cmp_isNaN_uint32.f a1).bind fun t135 => (if t134 = true then (if t135 = true then (some 0) else (some (-1))) else (if t135 = true then (some 1) else (if a0 < a1 then (some (-1)) else (if a0 > a1 then (some 1) else (some 0))))))) = some r := h
  clear h
  replace H := Option.bind_eq_some_iff.mp H
  obtain ⟨t134, A30, H⟩ := H
  replace H : ((cmp_isNaN_uint32.f a1).bind fun t135 => (if t134 = true then (if t135 = true then (some 0) else (some (-1))) else (if t135 = true then (some 1) else (if a0 < a1 then (some (-1)) else (if a0 > a1 then (some 1) else (some 0)))))) = some r := H
  have A3 := Aside0.mk A30
  clear A30
  replace H := Option.bind_eq_some_iff.mp H
  obtain ⟨t135, A40, H⟩ := H
  replace H : (if t134 = true then (if t135 = true then (some 0) else (some (-1))) else (if t135 = true then (some 1) else (if a0 < a1 then (some (-1)) else (if a0 > a1 then (some 1) else (some 0))))) = some r := H
  have A4 := Aside0.mk A40
  clear A40
  by_cases c5 : t134 = true
  · subst c5
    have H1 : (if t135 = true then (some 0) else (some (-1))) = some r := by rw [if_pos rfl] at H; exact H
    clear H
    have H := H1
    clear H1
    by_cases c6 : t135 = true
    · subst c6
      have H1 : (some 0) = some r := by rw [if_pos rfl] at H; exact H
      clear H
      have H := H1
      clear H1
      obtain rfl := Option.some.inj H
      go_enter Tryd.func27, Tryd.ntmps27
      go_wp2_with (first | ((with_reducible refine gate_callee (f := 40) rfl ?_); refine goesL_ (some 8) rfl rfl Tryd.func40 (by kernel_rfl) rfl #[.int .u32 a0] rfl (by (try simp only [List.map_toArray, List.map_cons, List.map_nil]); first | done | rfl | (simp only [List.length_drop, List.length_take]; rfl)) ?_; (with_reducible refine (cmp_isNaN_uint32.calls a0 true _ A3.out).mono ?_); rintro e w' ⟨rfl, ⟨nd, rfl⟩⟩; refine ⟨_, rfl, ?_⟩) | ((with_reducible refine gate_callee (f := 40) rfl ?_); refine goesL_ (some 10) rfl rfl Tryd.func40 (by kernel_rfl) rfl #[.int .u32 a1] rfl (by (try simp only [List.map_toArray, List.map_cons, List.map_nil]); first | done | rfl | (simp only [List.length_drop, List.length_take]; rfl)) ?_; (with_reducible refine (cmp_isNaN_uint32.calls a1 true _ A4.out).mono ?_); rintro e w' ⟨rfl, ⟨nd, rfl⟩⟩; refine ⟨_, rfl, ?_⟩))
      go_ret
      exact ⟨by first | rfl | (simp; done) | (simp [*]; done), by repeat (first | exact Drawn0.refl _ | apply Drawn0.step)⟩
    · replace c6 := Bool.eq_false_iff.mpr c6
      subst c6
      have H1 : (some (-1)) = some r := by rw [if_neg (show ¬ (false = true) by decide)] at H; exact H
      clear H
      have H := H1
      clear H1
      obtain rfl := Option.some.inj H
      go_enter Tryd.func27, Tryd.ntmps27
      go_wp2_with (first | ((with_reducible refine gate_callee (f := 40) rfl ?_); refine goesL_ (some 8) rfl rfl Tryd.func40 (by kernel_rfl) rfl #[.int .u32 a0] rfl (by (try simp only [List.map_toArray, List.map_cons, List.map_nil]); first | done | rfl | (simp only [List.length_drop, List.length_take]; rfl)) ?_; (with_reducible refine (cmp_isNaN_uint32.calls a0 true _ A3.out).mono ?_); rintro e w' ⟨rfl, ⟨nd, rfl⟩⟩; refine ⟨_, rfl, ?_⟩) | ((with_reducible refine gate_callee (f := 40) rfl ?_); refine goesL_ (some 10) rfl rfl Tryd.func40 (by kernel_rfl) rfl #[.int .u32 a1] rfl (by (try simp only [List.map_toArray, List.map_cons, List.map_nil]); first | done | rfl | (simp only [List.length_drop, List.length_take]; rfl)) ?_; (with_reducible refine (cmp_isNaN_uint32.calls a1 false _ A4.out).mono ?_); rintro e w' ⟨rfl, ⟨nd, rfl⟩⟩; refine ⟨_, rfl, ?_⟩))
      go_ret
      exact ⟨by first | rfl | (simp; done) | (simp [*]; done), by repeat (first | exact Drawn0.refl _ | apply Drawn0.step)⟩
  · replace c5 := Bool.eq_false_iff.mpr c5
    subst c5
    have H1 : (if t135 = true then (some 1) else (if a0 < a1 then (some (-1)) else (if a0 > a1 then (some 1) else (some 0)))) = some r := by rw [if_neg (show ¬ (false = true) by decide)] at H; exact H
    clear H
    have H := H1
    clear H1
    by_cases c7 : t135 = true
    · subst c7
      have H1 : (some 1) = some r := by rw [if_pos rfl] at H; exact H
      clear H
      have H := H1
      clear H1
      obtain rfl := Option.some.inj H
      go_enter Tryd.func27, Tryd.ntmps27
      go_wp2_with (first | ((with_reducible refine gate_callee (f := 40) rfl ?_); refine goesL_ (some 8) rfl rfl Tryd.func40 (by kernel_rfl) rfl #[.int .u32 a0] rfl (by (try simp only [List.map_toArray, List.map_cons, List.map_nil]); first | done | rfl | (simp only [List.length_drop, List.length_take]; rfl)) ?_; (with_reducible refine (cmp_isNaN_uint32.calls a0 false _ A3.out).mono ?_); rintro e w' ⟨rfl, ⟨nd, rfl⟩⟩; refine ⟨_, rfl, ?_⟩) | ((with_reducible refine gate_callee (f := 40) rfl ?_); refine goesL_ (some 10) rfl rfl Tryd.func40 (by kernel_rfl) rfl #[.int .u32 a1] rfl (by (try simp only [List.map_toArray, List.map_cons, List.map_nil]); first | done | rfl | (simp only [List.length_drop, List.length_take]; rfl)) ?_; (with_reducible refine (cmp_isNaN_uint32.calls a1 true _ A4.out).mono ?_); rintro e w' ⟨rfl, ⟨nd, rfl⟩⟩; refine ⟨_, rfl, ?_⟩))
      go_ret
      exact ⟨by first | rfl | (simp; done) | (simp [*]; done), by repeat (first | exact Drawn0.refl _ | apply Drawn0.step)⟩
    · replace c7 := Bool.eq_false_iff.mpr c7
      subst c7
      have H1 : (if a0 < a1 then (some (-1)) else (if a0 > a1 then (some 1) else (some 0))) = some r := by rw [if_neg (show ¬ (false = true) by decide)] at H; exact H
      clear H
      have H := H1
      clear H1
      by_cases c8 : a0 < a1
      · rw [if_pos c8] at H
        have c8b0 : decide (a0 < a1) = true := decide_eq_true c8
        clear c8
        obtain rfl := Option.some.inj H
        go_enter Tryd.func27, Tryd.ntmps27
        go_wp2_with (first | ((with_reducible refine gate_callee (f := 40) rfl ?_); refine goesL_ (some 8) rfl rfl Tryd.func40 (by kernel_rfl) rfl #[.int .u32 a0] rfl (by (try simp only [List.map_toArray, List.map_cons, List.map_nil]); first | done | rfl | (simp only [List.length_drop, List.length_take]; rfl)) ?_; (with_reducible refine (cmp_isNaN_uint32.calls a0 false _ A3.out).mono ?_); rintro e w' ⟨rfl, ⟨nd, rfl⟩⟩; refine ⟨_, rfl, ?_⟩) | ((with_reducible refine gate_callee (f := 40) rfl ?_); refine goesL_ (some 10) rfl rfl Tryd.func40 (by kernel_rfl) rfl #[.int .u32 a1] rfl (by (try simp only [List.map_toArray, List.map_cons, List.map_nil]); first | done | rfl | (simp only [List.length_drop, List.length_take]; rfl)) ?_; (with_reducible refine (cmp_isNaN_uint32.calls a1 false _ A4.out).mono ?_); rintro e w' ⟨rfl, ⟨nd, rfl⟩⟩; refine ⟨_, rfl, ?_⟩))
        go_ret
        exact ⟨by first | rfl | (simp; done) | (simp [*]; done), by repeat (first | exact Drawn0.refl _ | apply Drawn0.step)⟩
      · rw [if_neg c8] at H
        have c8b0 : decide (a0 < a1) = false := decide_eq_false c8
        clear c8
        by_cases c9 : a0 > a1
        · rw [if_pos c9] at H
          have c9b0 : decide (a1 < a0) = true := decide_eq_true c9
          clear c9
          obtain rfl := Option.some.inj H
          go_enter Tryd.func27, Tryd.ntmps27
          go_wp2_with (first | ((with_reducible refine gate_callee (f := 40) rfl ?_); refine goesL_ (some 8) rfl rfl Tryd.func40 (by kernel_rfl) rfl #[.int .u32 a0] rfl (by (try simp only [List.map_toArray, List.map_cons, List.map_nil]); first | done | rfl | (simp only [List.length_drop, List.length_take]; rfl)) ?_; (with_reducible refine (cmp_isNaN_uint32.calls a0 false _ A3.out).mono ?_); rintro e w' ⟨rfl, ⟨nd, rfl⟩⟩; refine ⟨_, rfl, ?_⟩) | ((with_reducible refine gate_callee (f := 40) rfl ?_); refine goesL_ (some 10) rfl rfl Tryd.func40 (by kernel_rfl) rfl #[.int .u32 a1] rfl (by (try simp only [List.map_toArray, List.map_cons, List.map_nil]); first | done | rfl | (simp only [List.length_drop, List.length_take]; rfl)) ?_; (with_reducible refine (cmp_isNaN_uint32.calls a1 false _ A4.out).mono ?_); rintro e w' ⟨rfl, ⟨nd, rfl⟩⟩; refine ⟨_, rfl, ?_⟩))
          go_ret
          exact ⟨by first | rfl | (simp; done) | (simp [*]; done), by repeat (first | exact Drawn0.refl _ | apply Drawn0.step)⟩
        · rw [if_neg c9] at H
          have c9b0 : decide (a1 < a0) = false := decide_eq_false c9
          clear c9
          obtain rfl := Option.some.inj H
          go_enter Tryd.func27, Tryd.ntmps27
          go_wp2_with (first | ((with_reducible refine gate_callee (f := 40) rfl ?_); refine goesL_ (some 8) rfl rfl Tryd.func40 (by kernel_rfl) rfl #[.int .u32 a0] rfl (by (try simp only [List.map_toArray, List.map_cons, List.map_nil]); first | done | rfl | (simp only [List.length_drop, List.length_take]; rfl)) ?_; (with_reducible refine (cmp_isNaN_uint32.calls a0 false _ A3.out).mono ?_); rintro e w' ⟨rfl, ⟨nd, rfl⟩⟩; refine ⟨_, rfl, ?_⟩) | ((with_reducible refine gate_callee (f := 40) rfl ?_); refine goesL_ (some 10) rfl rfl Tryd.func40 (by kernel_rfl) rfl #[.int .u32 a1] rfl (by (try simp only [List.map_toArray, List.map_cons, List.map_nil]); first | done | rfl | (simp only [List.length_drop, List.length_take]; rfl)) ?_; (with_reducible refine (cmp_isNaN_uint32.calls a1 false _ A4.out).mono ?_); rintro e w' ⟨rfl, ⟨nd, rfl⟩⟩; refine ⟨_, rfl, ?_⟩))
          go_ret
          exact ⟨by first | rfl | (simp; done) | (simp [*]; done), by repeat (first | exact Drawn0.refl _ | apply Drawn0.step)⟩

def cmp_isNaN_int.f (a0 : Int) : Option (Bool) := some (a0 != a0)
set_option maxHeartbeats 8000000 in
set_option maxRecDepth 100000 in
theorem cmp_isNaN_int.calls (a0 : Int) (r : Bool) (w : World) (h : cmp_isNaN_int.f a0 = some r) :
    Calls Tryd.prog 41 #[.int .i64 a0] w fun e w' => e = .returned (.bool r) ∧ Drawn0 w w' := by
  have H : (some (a0 != a0)) = some r := h
  clear h
  obtain rfl := Option.some.inj H
  go_enter Tryd.func41, Tryd.ntmps41
  go_wp2
  go_ret
  exact ⟨by first | rfl | (simp; done) | (simp [*]; done), by repeat (first | exact Drawn0.refl _ | apply Drawn0.step)⟩

def cmp_Compare_int.f (a0 : Int) (a1 : Int) : Option (Int) := (cmp_isNaN_int.f a0).bind fun t136 => ((cmp_isNaN_int.f a1).bind fun t137 => (if t136 = true then (if t137 = true then (some 0) else (some (-1))) else (if t137 = true then (some 1) else (if a0 < a1 then (some (-1)) else (if a0 > a1 then (some 1) else (some 0))))))
set_option maxHeartbeats 8000000 in
set_option maxRecDepth 100000 in
theorem cmp_Compare_int.calls (a0 : Int) (a1 : Int) (r : Int) (w : World) (h : cmp_Compare_int.f a0 a1 = some r) :
    Calls Tryd.prog 28 #[.int .i64 a0, .int .i64 a1] w fun e w' => e = .returned (.int .i64 r) ∧ Drawn0 w w' := by
  have H : ((cmp_isNaN_int.f a0).bind fun t136 => ((cmp_isNaN_int.f a1).bind fun t137 => (if t136 = true then (if t137 = true then (some 0) else (some (-1))) else (if t137 = true then (some 1) else (if a0 < a1 then (some (-1)) else (if a0 > a1 then (some 1) else (some 0))))))) = some r := h
  clear h
  replace H := Option.bind_eq_some_iff.mp H
  obtain ⟨t136, A30, H⟩ := H
  replace H : ((cmp_isNaN_int.f a1).bind fun t137 => (if t136 = true then (if t137 = true then (some 0) else (some (-1))) else (if t137 = true then (some 1) else (if a0 < a1 then (some (-1)) else (if a0 > a1 then (some 1) else (some 0)))))) = some r := H
  have A3 := Aside0.mk A30
  clear A30
  replace H := Option.bind_eq_some_iff.mp H
  obtain ⟨t137, A40, H⟩ := H
  replace H : (if t136 = true then (if t137 = true then (some 0) else (some (-1))) else (if t137 = true then (some 1) else (if a0 < a1 then (some (-1)) else (if a0 > a1 then (some 1) else (some 0))))) = some r := H
  have A4 := Aside0.mk A40
  clear A40
  by_cases c5 : t136 = true
  · subst c5
    have H1 : (if t137 = true then (some 0) else (some (-1))) = some r := by rw [if_pos rfl] at H; exact H
    clear H
    have H := H1
    clear H1
    by_cases c6 : t137 = true
    · subst c6
      have H1 : (some 0) = some r := by rw [if_pos rfl] at H; exact H
      clear H
      have H := H1
      clear H1
      obtain rfl := Option.some.inj H
      go_enter Tryd.func28, Tryd.ntmps28
      go_wp2_with (first | ((with_reducible refine gate_callee (f := 41) rfl ?_); refine goesL_ (some 8) rfl rfl Tryd.func41 (by kernel_rfl) rfl #[.int .i64 a0] rfl (by (try simp only [List.map_toArray, List.map_cons, List.map_nil]); first | done | rfl | (simp only [List.length_drop, List.length_take]; rfl)) ?_; (with_reducible refine (cmp_isNaN_int.calls a0 true _ A3.out).mono ?_); rintro e w' ⟨rfl, ⟨nd, rfl⟩⟩; refine ⟨_, rfl, ?_⟩) | ((with_reducible refine gate_callee (f := 41) rfl ?_); refine goesL_ (some 10) rfl rfl Tryd.func41 (by kernel_rfl) rfl #[.int .i64 a1] rfl (by (try simp only [List.map_toArray, List.map_cons, List.map_nil]); first | done | rfl | (simp only [List.length_drop, List.length_take]; rfl)) ?_; (with_reducible refine (cmp_isNaN_int.calls a1 true _ A4.out).mono ?_); rintro e w' ⟨rfl, ⟨nd, rfl⟩⟩; refine ⟨_, rfl, ?_⟩))
      go_ret
      exact ⟨by first | rfl | (simp; done) | (simp [*]; done), by repeat (first | exact Drawn0.refl _ | apply Drawn0.step)⟩
    · replace c6 := Bool.eq_false_iff.mpr c6
      subst c6
      have H1 : (some (-1)) = some r := by rw [if_neg (show ¬ (false = true) by decide)] at H; exact H
      clear H
      have H := H1
      clear H1
      obtain rfl := Option.some.inj H
      go_enter Tryd.func28, Tryd.ntmps28
      go_wp2_with (first | ((with_reducible refine gate_callee (f := 41) rfl ?_); refine goesL_ (some 8) rfl rfl Tryd.func41 (by kernel_rfl) rfl #[.int .i64 a0] rfl (by (try simp only [List.map_toArray, List.map_cons, List.map_nil]); first | done | rfl | (simp only [List.length_drop, List.length_take]; rfl)) ?_; (with_reducible refine (cmp_isNaN_int.calls a0 true _ A3.out).mono ?_); rintro e w' ⟨rfl, ⟨nd, rfl⟩⟩; refine ⟨_, rfl, ?_⟩) | ((with_reducible refine gate_callee (f := 41) rfl ?_); refine goesL_ (some 10) rfl rfl Tryd.func41 (by kernel_rfl) rfl #[.int .i64 a1] rfl (by (try simp only [List.map_toArray, List.map_cons, List.map_nil]); first | done | rfl | (simp only [List.length_drop, List.length_take]; rfl)) ?_; (with_reducible refine (cmp_isNaN_int.calls a1 false _ A4.out).mono ?_); rintro e w' ⟨rfl, ⟨nd, rfl⟩⟩; refine ⟨_, rfl, ?_⟩))
      go_ret
      exact ⟨by first | rfl | (simp; done) | (simp [*]; done), by repeat (first | exact Drawn0.refl _ | apply Drawn0.step)⟩
  · replace c5 := Bool.eq_false_iff.mpr c5
    subst c5
    have H1 : (if t137 = true then (some 1) else (if a0 < a1 then (some (-1)) else (if a0 > a1 then (some 1) else (some 0)))) = some r := by rw [if_neg (show ¬ (false = true) by decide)] at H; exact H
    clear H
    have H := H1
    clear H1
    by_cases c7 : t137 = true
    · subst c7
      have H1 : (some 1) = some r := by rw [if_pos rfl] at H; exact H
      clear H
      have H := H1
      clear H1
      obtain rfl := Option.some.inj H
      go_enter Tryd.func28, Tryd.ntmps28
      go_wp2_with (first | ((with_reducible refine gate_callee (f := 41) rfl ?_); refine goesL_ (some 8) rfl rfl Tryd.func41 (by kernel_rfl) rfl #[.int .i64 a0] rfl (by (try simp only [List.map_toArray, List.map_cons, List.map_nil]); first | done | rfl | (simp only [List.length_drop, List.length_take]; rfl)) ?_; (with_reducible refine (cmp_isNaN_int.calls a0 false _ A3.out).mono ?_); rintro e w' ⟨rfl, ⟨nd, rfl⟩⟩; refine ⟨_, rfl, ?_⟩) | ((with_reducible refine gate_callee (f := 41) rfl ?_); refine goesL_ (some 10) rfl rfl Tryd.func41 (by kernel_rfl) rfl #[.int .i64 a1] rfl (by (try simp only [List.map_toArray, List.map_cons, List.map_nil]); first | done | rfl | (simp only [List.length_drop, List.length_take]; rfl)) ?_; (with_reducible refine (cmp_isNaN_int.calls a1 true _ A4.out).mono ?_); rintro e w' ⟨rfl, ⟨nd, rfl⟩⟩; refine ⟨_, rfl, ?_⟩))
      go_ret
      exact ⟨by first | rfl | (simp; done) | (simp [*]; done), by repeat (first | exact Drawn0.refl _ | apply Drawn0.step)⟩
    · replace c7 := Bool.eq_false_iff.mpr c7
      subst c7
      have H1 : (if a0 < a1 then (some (-1)) else (if a0 > a1 then (some 1) else (some 0))) = some r := by rw [if_neg (show ¬ (false = true) by decide)] at H; exact H
      clear H
      have H := H1
      clear H1
      by_cases c8 : a0 < a1
      · rw [if_pos c8] at H
        have c8b0 : decide (a0 < a1) = true := decide_eq_true c8
        clear c8
        obtain rfl := Option.some.inj H
        go_enter Tryd.func28, Tryd.ntmps28
        go_wp2_with (first | ((with_reducible refine gate_callee (f := 41) rfl ?_); refine goesL_ (some 8) rfl rfl Tryd.func41 (by kernel_rfl) rfl #[.int .i64 a0] rfl (by (try simp only [List.map_toArray, List.map_cons, List.map_nil]); first | done | rfl | (simp only [List.length_drop, List.length_take]; rfl)) ?_; (with_reducible refine (cmp_isNaN_int.calls a0 false _ A3.out).mono ?_); rintro e w' ⟨rfl, ⟨nd, rfl⟩⟩; refine ⟨_, rfl, ?_⟩) | ((with_reducible refine gate_callee (f := 41) rfl ?_); refine goesL_ (some 10) rfl rfl Tryd.func41 (by kernel_rfl) rfl #[.int .i64 a1] rfl (by (try simp only [List.map_toArray, List.map_cons, List.map_nil]); first | done | rfl | (simp only [List.length_drop, List.length_take]; rfl)) ?_; (with_reducible refine (cmp_isNaN_int.calls a1 false _ A4.out).mono ?_); rintro e w' ⟨rfl, ⟨nd, rfl⟩⟩; refine ⟨_, rfl, ?_⟩))
        go_ret
        exact ⟨by first | rfl | (simp; done) | (simp [*]; done), by repeat (first | exact Drawn0.refl _ | apply Drawn0.step)⟩
      · rw [if_neg c8] at H
        have c8b0 : decide (a0 < a1) = false := decide_eq_false c8
        clear c8
        by_cases c9 : a0 > a1
        · rw [if_pos c9] at H
          have c9b0 : decide (a1 < a0) = true := decide_eq_true c9
          clear c9
          obtain rfl := Option.some.inj H
          go_enter Tryd.func28, Tryd.ntmps28
          go_wp2_with (first | ((with_reducible refine gate_callee (f := 41) rfl ?_); refine goesL_ (some 8) rfl rfl Tryd.func41 (by kernel_rfl) rfl #[.int .i64 a0] rfl (by (try simp only [List.map_toArray, List.map_cons, List.map_nil]); first | done | rfl | (simp only [List.length_drop, List.length_take]; rfl)) ?_; (with_reducible refine (cmp_isNaN_int.calls a0 false _ A3.out).mono ?_); rintro e w' ⟨rfl, ⟨nd, rfl⟩⟩; refine ⟨_, rfl, ?_⟩) | ((with_reducible refine gate_callee (f := 41) rfl ?_); refine goesL_ (some 10) rfl rfl Tryd.func41 (by kernel_rfl) rfl #[.int .i64 a1] rfl (by (try simp only [List.map_toArray, List.map_cons, List.map_nil]); first | done | rfl | (simp only [List.length_drop, List.length_take]; rfl)) ?_; (with_reducible refine (cmp_isNaN_int.calls a1 false _ A4.out).mono ?_); rintro e w' ⟨rfl, ⟨nd, rfl⟩⟩; refine ⟨_, rfl, ?_⟩))
          go_ret
          exact ⟨by first | rfl | (simp; done) | (simp [*]; done), by repeat (first | exact Drawn0.refl _ | apply Drawn0.step)⟩
        · rw [if_neg c9] at H
          have c9b0 : decide (a1 < a0) = false := decide_eq_false c9
          clear c9
          obtain rfl := Option.some.inj H
          go_enter Tryd.func28, Tryd.ntmps28
          go_wp2_with (first | ((with_reducible refine gate_callee (f := 41) rfl ?_); refine goesL_ (some 8) rfl rfl Tryd.func41 (by kernel_rfl) rfl #[.int .i64 a0] rfl (by (try simp only [List.map_toArray, List.map_cons, List.map_nil]); first | done | rfl | (simp only [List.length_drop, List.length_take]; rfl)) ?_; (with_reducible refine (cmp_isNaN_int.calls a0 false _ A3.out).mono ?_); rintro e w' ⟨rfl, ⟨nd, rfl⟩⟩; refine ⟨_, rfl, ?_⟩) | ((with_reducible refine gate_callee (f := 41) rfl ?_); refine goesL_ (some 10) rfl rfl Tryd.func41 (by kernel_rfl) rfl #[.int .i64 a1] rfl (by (try simp only [List.map_toArray, List.map_cons, List.map_nil]); first | done | rfl | (simp only [List.length_drop, List.length_take]; rfl)) ?_; (with_reducible refine (cmp_isNaN_int.calls a1 false _ A4.out).mono ?_); rintro e w' ⟨rfl, ⟨nd, rfl⟩⟩; refine ⟨_, rfl, ?_⟩))
          go_ret
          exact ⟨by first | rfl | (simp; done) | (simp [*]; done), by repeat (first | exact Drawn0.refl _ | apply Drawn0.step)⟩

end Go.Proofs.YtckffheolnmcnabDoor.P

end
section
namespace Go.Proofs.YtckffheolnmcnabDoor.P
open Go.RowKit Go.Proofs.YtckffheolnmcnabDoorW.PrintWords Go.Proofs.YtckffheolnmcnabDoorW.PrintLast Go.Proofs.YtckffheolnmcnabDoorW.PrintMore
set_option linter.unusedVariables false
set_option linter.unusedSimpArgs false

def cmpI (a b : Int) : Int := if a < b then -1 else if b < a then 1 else 0
def orI (a b : Int) : Int := if a ≠ 0 then a else b
def ordP (x y : S24) : Int := orI (cmpI x.f0 y.f0) (cmpI x.f1 y.f1)
theorem cmpI_is (a b : Int) : cmp_Compare_int.f a b = some (cmpI a b) := by
  unfold cmp_Compare_int.f cmpI
  by_cases h1 : a < b
  · simp [h1, cmp_isNaN_int.f]
  · by_cases h2 : b < a
    · simp [h1, h2, cmp_isNaN_int.f]
    · simp [h1, h2, cmp_isNaN_int.f]
theorem orI_is (a b : Int) : cmp_Or_int.f 4 [a, b] = some (orI a b) := by
  unfold orI
  by_cases h : a = 0
  · by_cases h2 : b = 0 <;> simp [cmp_Or_int.f, cmp_Or_int.l0, rd, h, h2, wrap64]
  · simp [cmp_Or_int.f, cmp_Or_int.l0, rd, h, wrap64]
theorem cmpU_is (a b : Int) : cmp_Compare_uint32.f a b = some (cmpI a b) := by
  unfold cmp_Compare_uint32.f cmpI
  by_cases h1 : a < b
  · simp [h1, cmp_isNaN_uint32.f]
  · by_cases h2 : b < a
    · simp [h1, h2, cmp_isNaN_uint32.f]
    · simp [h1, h2, cmp_isNaN_uint32.f]
/-- an order told by numbers -/
def Ord {α : Type} (c : α → α → Int) : Prop := (∀ a b, c b a = - c a b) ∧ (∀ a b d, c a b ≤ 0 → c b d ≤ 0 → c a d ≤ 0)
theorem Ord.self {α : Type} {c : α → α → Int} (h : Ord c) (a : α) : c a a = 0 := by have := h.1 a a; omega
theorem Ord.zero {α : Type} {c : α → α → Int} (h : Ord c) {a b d : α} (h1 : c a b ≤ 0) (h2 : c b d ≤ 0) (h3 : c a d = 0) : c a b = 0 ∧ c b d = 0 := by
  have e1 := h.1 a d
  have e2 := h.1 a b
  have e3 := h.1 b d
  have t1 := h.2 b d a h2 (by omega)
  have t2 := h.2 d a b (by omega) h1
  constructor <;> omega
theorem Ord.pull {α β : Type} {c : α → α → Int} (h : Ord c) (f : β → α) : Ord (fun a b => c (f a) (f b)) := ⟨fun a b => h.1 _ _, fun a b d => h.2 _ _ _⟩
theorem cmpI_ord : Ord cmpI := by
  refine ⟨fun a b => ?_, fun a b d => ?_⟩
  · unfold cmpI; split <;> split <;> omega
  · unfold cmpI; split <;> split <;> split <;> (try split) <;> (try split) <;> omega
theorem cmpI_zero {a b : Int} : cmpI a b = 0 ↔ a = b := by unfold cmpI; split <;> (try split) <;> omega
theorem orI_ord {α : Type} {c d : α → α → Int} (h : Ord c) (g : Ord d) : Ord (fun a b => orI (c a b) (d a b)) := by
  refine ⟨fun x y => ?_, fun x y z h1 h2 => ?_⟩
  · show orI _ _ = - orI _ _
    unfold orI
    rw [h.1 x y, g.1 x y]
    by_cases e : c x y = 0
    · rw [if_neg (by omega), if_neg (by omega)]
    · rw [if_pos (by omega), if_pos (by omega)]
  · have h1' : orI (c x y) (d x y) ≤ 0 := h1
    have h2' : orI (c y z) (d y z) ≤ 0 := h2
    show orI (c x z) (d x z) ≤ 0
    unfold orI at *
    have p1 : c x y ≤ 0 := by by_cases e : c x y = 0 <;> simp [e] at h1' ⊢ ; exact h1'
    have p2 : c y z ≤ 0 := by by_cases e : c y z = 0 <;> simp [e] at h2' ⊢ ; exact h2'
    have p3 := h.2 x y z p1 p2
    by_cases e : c x z = 0
    · obtain ⟨e1, e2⟩ := h.zero p1 p2 e
      rw [if_neg (by omega)] at h1' h2' ⊢
      exact g.2 x y z h1' h2'
    · rw [if_pos e]; exact p3
theorem orI_zero {a b : Int} : orI a b = 0 ↔ a = 0 ∧ b = 0 := by unfold orI; by_cases h : a = 0 <;> simp [h]
/-- draws, and new blocks behind -/
def Gr (w w' : World) : Prop := ∃ (q : Nat) (os : Array Obj), w' = Go.Sort.grow (w.drewN q) os
theorem Gr.refl (w : World) : Gr w w := ⟨0, #[], by simp [Go.Sort.grow, World.drewN]⟩
theorem Gr.drewN {w W : World} (h : Gr w W) (n : Nat) : Gr w (W.drewN n) := by
  obtain ⟨q, os, rfl⟩ := h
  exact ⟨q + n, os, by simp [Go.Sort.grow, World.drewN, Nat.add_assoc]⟩
theorem Gr.drew {w W : World} (h : Gr w W) : Gr w W.drew := Gr.drewN h 1
theorem Gr.alloc {w W : World} (h : Gr w W) (o : Obj) : Gr w (W.alloc o) := by
  obtain ⟨q, os, rfl⟩ := h
  exact ⟨q, os ++ #[o], by rw [Go.Sort.alloc_eq_grow, Go.Sort.grow_grow]⟩
theorem C_two (g : Nat) (x y : Int) (w : World) (c0 : w.cell? ⟨g, 0, none⟩ = some (.int .i64 x)) (c1 : w.cell? ⟨g, 1, none⟩ = some (.int .i64 y)) : Kd.C (Kd.int .i64) w (some ⟨g, 0, none⟩) [x, y].length [x, y] := by
  refine ⟨rfl, by simp [maxLen], fun _ => ⟨⟨g, 0, none⟩, rfl, ?_⟩⟩
  intro j z hz
  match j with
  | 0 => simp at hz; subst hz; exact ⟨[.int .i64 x], rfl, rfl, fun i u hu => by match i with | 0 => simp at hu; subst hu; exact c0 | i + 1 => simp at hu⟩
  | 1 => simp at hz; subst hz; exact ⟨[.int .i64 y], rfl, rfl, fun i u hu => by match i with | 0 => simp at hu; subst hu; exact c1 | i + 1 => simp at hu⟩
  | j + 2 => simp at hz
theorem or2_any (g : Nat) (x y : Int) (w : World) (c0 : w.cell? ⟨g, 0, none⟩ = some (.int .i64 x)) (c1 : w.cell? ⟨g, 1, none⟩ = some (.int .i64 y)) :
    Calls Tryd.prog 26 #[.slice (some ⟨g, 0, none⟩) 2 2] w fun e w' => e = .returned (.int .i64 (orI x y)) ∧ ∃ m, w' = w.drewN m :=
  (cmp_Or_int.calls 4 (some ⟨g, 0, none⟩) 2 [x, y] _ w (C_two g x y w c0 c1) (by simp) (orI_is x y)).mono fun e w' h => ⟨h.1, by obtain ⟨_, m, rfl⟩ := h; exact ⟨m, rfl⟩⟩
theorem cmp_any (a b : Int) (w : World) : Calls Tryd.prog 28 #[.int .i64 a, .int .i64 b] w fun e w' => e = .returned (.int .i64 (cmpI a b)) ∧ ∃ m, w' = w.drewN m :=
  (cmp_Compare_int.calls a b _ w (cmpI_is a b)).mono fun e w' h => ⟨h.1, by obtain ⟨_, m, rfl⟩ := h; exact ⟨m, rfl⟩⟩
theorem cmpU_any (a b : Int) (w : World) : Calls Tryd.prog 27 #[.int .u32 a, .int .u32 b] w fun e w' => e = .returned (.int .i64 (cmpI a b)) ∧ ∃ m, w' = w.drewN m :=
  (cmp_Compare_uint32.calls a b _ w (cmpU_is a b)).mono fun e w' h => ⟨h.1, by obtain ⟨_, m, rfl⟩ := h; exact ⟨m, rfl⟩⟩
set_option maxHeartbeats 1000000 in
set_option maxRecDepth 100000 in
theorem orderP_grow (x y : S24) (w : World) :
    Calls Tryd.prog 25 #[.agg #[.int .u32 x.f0, .int .i64 x.f1], .agg #[.int .u32 y.f0, .int .i64 y.f1]] w fun e w' => e = .returned (.int .i64 (ordP x y)) ∧ Gr w w' := by
  unfold ordP
  obtain ⟨a, n⟩ := x
  obtain ⟨b, m⟩ := y
  go_enter Tryd.func25, Tryd.ntmps25
  go_wp2_with fail
  obtain ⟨W, hW⟩ : ∃ W, W = (w.alloc (Obj.cells #[.int .u32 a, .int .i64 n] 24)).alloc (Obj.cells #[.int .u32 b, .int .i64 m] 24) := ⟨_, rfl⟩
  rw [← hW]
  have c0 : W.cell? ⟨w.heap.size, 0, none⟩ = some (.int .u32 a) := by rw [hW]; go_simp
  have c1 : W.cell? ⟨w.heap.size, 1, none⟩ = some (.int .i64 n) := by rw [hW]; go_simp
  have c2 : W.cell? ⟨w.heap.size + 1, 0, none⟩ = some (.int .u32 b) := by rw [hW]; go_simp
  have c3 : W.cell? ⟨w.heap.size + 1, 1, none⟩ = some (.int .i64 m) := by rw [hW]; go_simp
  have HG : Hid (Gr w W) := by
    unfold Hid; rw [hW]
    exact ((Gr.refl _).alloc _).alloc _
  have hsz : W.heap.size = w.heap.size + 2 := by rw [hW]; simp
  clear hW
  go_region_held3 (fun w' => w'.cell? ⟨w.heap.size, 0, none⟩ = some (.int .u32 a) ∧ w'.cell? ⟨w.heap.size, 1, none⟩ = some (.int .i64 n) ∧ w'.cell? ⟨w.heap.size + 1, 0, none⟩ = some (.int .u32 b) ∧ w'.cell? ⟨w.heap.size + 1, 1, none⟩ = some (.int .i64 m)) (go_keep)
    (first | (go_at_call 27; refine (cmpU_any _ _ _).mono ?_; rintro e w' ⟨rfl, ⟨nd, rfl⟩⟩) | (go_at_call 28; refine (cmp_any _ _ _).mono ?_; rintro e w' ⟨rfl, ⟨nd, rfl⟩⟩) | (go_at_call 26; refine (or2_any _ (cmpI a b) (cmpI n m) _ ?_ ?_).mono ?_; (go_simp); (go_simp); rintro e w' ⟨rfl, ⟨nd, rfl⟩⟩))
  all_goals
    go_wp2_with fail
    go_ret
    exact ⟨rfl, by repeat (first | exact HG.out | apply Gr.drewN | apply Gr.drew | apply Gr.alloc)⟩
end Go.Proofs.YtckffheolnmcnabDoor.P

end
section
namespace Go.Proofs
open Go.Shelf
def Tryd.sortX_ren : Go.Shelf.Ren := ⟨fun | 6 => 38 | 15 => 55 | 14 => 54 | 28 => 67 | 29 => 68 | 20 => 59 | 21 => 60 | 22 => 61 | 23 => 62 | 24 => 63 | 25 => 64 | 26 => 65 | 27 => 66 | 46 => 69 | 47 => 70 | 48 => 71 | 49 => 72 | 50 => 73 | 57 => 74 | n => n, fun | 22 => 32 | 24 => 24 | 25 => 66 | 3 => 3 | 39 => 42 | 0 => 0 | 53 => 22 | 55 => 101 | 4 => 4 | 46 => 94 | 45 => 93 | 50 => 40 | 5 => 5 | 9 => 9 | 66 => 106 | 70 => 110 | 76 => 112 | 77 => 113 | n => n, fun | n => n⟩
theorem Tryd.sortX : Go.Proofs.SlLaysF0.n6 Tryd.prog Tryd.sortX_ren := {
  mixed := by kernel_rfl
  f6 := ⟨Tryd.f38.name, by decide, Tryd.func38.trans (congrArg some (by kernel_rfl))⟩
  f14 := ⟨Tryd.f54.name, by decide, Tryd.func54.trans (congrArg some (by kernel_rfl))⟩
  f15 := Tryd.func55.trans (congrArg some (by kernel_rfl))
  f20 := ⟨Tryd.f59.name, by decide, Tryd.func59.trans (congrArg some (by kernel_rfl))⟩
  f21 := ⟨Tryd.f60.name, by decide, Tryd.func60.trans (congrArg some (by kernel_rfl))⟩
  f22 := ⟨Tryd.f61.name, by decide, Tryd.func61.trans (congrArg some (by kernel_rfl))⟩
  f23 := ⟨Tryd.f62.name, by decide, Tryd.func62.trans (congrArg some (by kernel_rfl))⟩
  f24 := ⟨Tryd.f63.name, by decide, Tryd.func63.trans (congrArg some (by kernel_rfl))⟩
  f25 := ⟨Tryd.f64.name, by decide, Tryd.func64.trans (congrArg some (by kernel_rfl))⟩
  f26 := ⟨Tryd.f65.name, by decide, Tryd.func65.trans (congrArg some (by kernel_rfl))⟩
  f27 := ⟨Tryd.f66.name, by decide, Tryd.func66.trans (congrArg some (by kernel_rfl))⟩
  f28 := Tryd.func67.trans (congrArg some (by kernel_rfl))
  f29 := Tryd.func68.trans (congrArg some (by kernel_rfl))
  f46 := ⟨Tryd.f69.name, by decide, Tryd.func69.trans (congrArg some (by kernel_rfl))⟩
  f47 := Tryd.func70.trans (congrArg some (by kernel_rfl))
  f48 := Tryd.func71.trans (congrArg some (by kernel_rfl))
  f49 := ⟨Tryd.f72.name, by decide, Tryd.func72.trans (congrArg some (by kernel_rfl))⟩
  f50 := ⟨Tryd.f73.name, by decide, Tryd.func73.trans (congrArg some (by kernel_rfl))⟩
  f57 := ⟨Tryd.f74.name, by decide, Tryd.func74.trans (congrArg some (by kernel_rfl))⟩
  t0 := Tryd.underlying0
  a0 := Tryd.isAgg0
  z0 := Tryd.sizeOf0
  v0 := Tryd.zeroValue0
  t3 := Tryd.underlying3
  a3 := Tryd.isAgg3
  z3 := Tryd.sizeOf3
  v3 := Tryd.zeroValue3
  t4 := Tryd.underlying4
  a4 := Tryd.isAgg4
  z4 := Tryd.sizeOf4
  v4 := Tryd.zeroValue4
  t5 := Tryd.underlying5
  a5 := Tryd.isAgg5
  z5 := Tryd.sizeOf5
  v5 := Tryd.zeroValue5
  t9 := Tryd.underlying9
  a9 := Tryd.isAgg9
  z9 := Tryd.sizeOf9
  v9 := Tryd.zeroValue9
  t22 := Tryd.underlying32
  a22 := Tryd.isAgg32
  z22 := Tryd.sizeOf32
  v22 := Tryd.zeroValue32
  t25 := Tryd.underlying66
  a25 := Tryd.isAgg66
  z25 := Tryd.sizeOf66
  v25 := Tryd.zeroValue66
  t39 := Tryd.underlying42
  a39 := Tryd.isAgg42
  z39 := Tryd.sizeOf42
  v39 := Tryd.zeroValue42
  t45 := Tryd.underlying93
  a45 := Tryd.isAgg93
  z45 := Tryd.sizeOf93
  v45 := Tryd.zeroValue93
  t46 := Tryd.underlying94
  a46 := Tryd.isAgg94
  z46 := Tryd.sizeOf94
  v46 := Tryd.zeroValue94
  t50 := Tryd.underlying40
  a50 := Tryd.isAgg40
  z50 := Tryd.sizeOf40
  v50 := Tryd.zeroValue40
  t53 := Tryd.underlying22
  a53 := Tryd.isAgg22
  z53 := Tryd.sizeOf22
  v53 := Tryd.zeroValue22
  t55 := Tryd.underlying101
  a55 := Tryd.isAgg101
  z55 := Tryd.sizeOf101
  v55 := Tryd.zeroValue101
  t66 := Tryd.underlying106
  a66 := Tryd.isAgg106
  z66 := Tryd.sizeOf106
  v66 := Tryd.zeroValue106
  t70 := Tryd.underlying110
  a70 := Tryd.isAgg110
  z70 := Tryd.sizeOf110
  v70 := Tryd.zeroValue110
  t76 := Tryd.underlying112
  a76 := Tryd.isAgg112
  z76 := Tryd.sizeOf112
  v76 := Tryd.zeroValue112
  t77 := Tryd.underlying113
  a77 := Tryd.isAgg113
  z77 := Tryd.sizeOf113
  v77 := Tryd.zeroValue113 }
end Go.Proofs

end
section
namespace Go.Proofs.YtckffheolnmcnabDoor.P
open Go.RowKit Go.Shelf Go.Proofs.YtckffheolnmcnabDoorW.PrintWords Go.Proofs.YtckffheolnmcnabDoorW.PrintLast Go.Proofs.YtckffheolnmcnabDoorW.PrintMore
set_option linter.unusedVariables false
set_option linter.unusedSimpArgs false

attribute [local go_sem] Oper.semAt_some
set_option maxRecDepth 100000 in
set_option maxHeartbeats 2000000 in
theorem values1_in (F : Fence) (n : Nat) (h52 : F.fn 39) (hro : F.round = none) (hn : 1 ≤ n) (l Bs : Nat) (A : Option Addr) (cap : Nat) (xs : List S24) (w0 : World) (hC : Kd.C k24 w0 A xs.length xs) (J Jx : List S24 → World → Prop)
    (W : World) (hA : AbidesFrom W.heap.size J)
    (hY : ∀ pre x W1, J pre W1 → pre.length < xs.length → YieldAt F (n - 1) Tryd.prog l #[.agg #[.int .u32 x.f0, .int .i64 x.f1]] W1 fun e W' =>
      (e = .returned (.bool true) ∧ J (pre ++ [x]) W' ∧ Below w0.heap.size W1 W') ∨ (e = .returned (.bool false) ∧ Jx (pre ++ [x]) W'))
    (hB : Below w0.heap.size w0 W) (hBs : W.cell? ⟨Bs, 0, none⟩ = some (.slice A xs.length cap)) (h0 : J [] W) :
    CallsIn F n Tryd.prog 39 #[.func (.yield l) #[] #[], .pointer (some ⟨Bs, 0, none⟩)] W fun e W' => (∃ v, e = .returned v) ∧
      ((∃ ys, ys = xs ∧ J ys W') ∨ (∃ pre, pre <+: xs ∧ Jx pre W')) := by
  have hmax := Kd.C_max hC
  refine callsIn_of_wp Tryd.func39 rfl h52 ?_ hro
  simp only [Tryd.ntmps39, List.size_toArray, List.length_cons, List.length_nil, Nat.reduceAdd, Nat.reduceSub, Array.replicate_succ, Array.replicate_zero, List.push_toArray, List.append_toArray, List.nil_append, List.cons_append]
  gi_wp2
  gi_loopw [7] (fun i wr => ∃ k : Nat, k ≤ xs.length ∧ i = .int .i64 k ∧ J (xs.take k) wr ∧ Below w0.heap.size w0 wr)
    (fun i _ => xs.length - (intOf i).toNat)
  case atStart => exact ⟨0, Nat.zero_le _, rfl, h0, hB⟩
  case round =>
    obtain ⟨k, hk, rfl, hJs, hnx⟩ := hrel
    by_cases hlt : k < xs.length
    · obtain ⟨ad, hA', hc0, hc1⟩ := at_T24 (Kd.C_below hC hnx) (k : Int) (by omega) (by omega)
      subst hA'
      have hx : xs[k]? = some (rd_T24 xs (k : Int)) := by unfold rd_T24; rw [List.getD_eq_getElem?_getD, Int.toNat_natCast, List.getElem?_eq_getElem hlt]; rfl
      simp only [Int.toNat_natCast] at hc0 hc1
      generalize rd_T24 xs (k : Int) = x at hc0 hc1 hx
      have hw : IntKind.i64.wrap ((k : Int) + 1) = (k : Int) + 1 := IntWalk.i64_in _ (by omega)
      obtain ⟨fn, tmps, assign, body, hy, hR⟩ := hY _ x (wr.alloc (.cells #[.int .u32 x.f0, .int .i64 x.f1] 24)) (hA _ _ _ none hJs (World.grownBy_alloc _ _ none) (fun r e => by cases e)) (by rw [List.length_take]; omega)
      gi_wp2
      refine hR.mono ?_
      rintro e W3 (⟨rfl, hJ3, hk3⟩ | ⟨rfl, hJx3⟩)
      · gi_wp2
        go_roundw
        case rel => exact ⟨k + 1, by omega, by simp, by rw [List.take_add_one, hx]; exact hJ3, (hnx.alloc hnx.size _).trans hk3⟩
        case measure => simp [intOf]; omega
      · gi_wp2
        refine bodyPost_ret (results_none rfl _ _ _) rfl ?_
        exact ⟨⟨_, rfl⟩, .inr ⟨_, ⟨xs.drop (k + 1), by rw [show xs.take k ++ [x] = xs.take (k + 1) by rw [List.take_add_one, hx]; rfl, List.take_append_drop]⟩, hJx3⟩⟩
    · obtain rfl : k = xs.length := by omega
      gi_wp2
      go_end0
      exact ⟨⟨_, rfl⟩, .inl ⟨_, rfl, by rw [List.take_length] at hJs; exact hJs⟩⟩
set_option maxHeartbeats 1000000 in
theorem values_in (F : Fence) (n : Nat) (h41 : F.fn 24) (hro : F.round = none) (a : Option Addr) (len cap : Nat) (w : World) :
    CallsIn F n Tryd.prog 24 #[.slice a len cap] w fun e w' => e = .returned (.func (.func 39) #[] #[.pointer (some ⟨w.heap.size, 0, none⟩)]) ∧ w' = w.alloc (.cells #[.slice a len cap] 32) := by
  refine callsIn_of_wp Tryd.func24 rfl h41 ?_ hro
  simp only [Tryd.ntmps24, List.size_toArray, List.length_cons, List.length_nil, Nat.reduceAdd, Nat.reduceSub, Array.replicate_succ, Array.replicate_zero, List.push_toArray, List.append_toArray, List.nil_append, List.cons_append]
  gi_wp2
  go_ret
  exact ⟨rfl, rfl⟩
theorem values_stops (F : Fence) (n : Nat) (h52 : F.fn 39) (hro : F.round = none) (hn : 1 ≤ n) (Bs : Nat) (A : Option Addr) (cap : Nat) (xs : List S24) (w0 w : World) (hC : Kd.C k24 w0 A xs.length xs) (hB : Below w0.heap.size w0 w) (hBs : Bs < w.heap.size)
    (hc : w.cell? ⟨Bs, 0, none⟩ = some (.slice A xs.length cap)) :
    SeqStopsK F n Tryd.prog 39 #[.pointer (some ⟨Bs, 0, none⟩)] (fun x : S24 => #[.agg #[.int .u32 x.f0, .int .i64 x.f1]]) (Below w0.heap.size) (fun ys => ys = xs) (fun pre => pre <+: xs) xs.length w := fun l J Jx W hW hA _ hY h0 =>
  values1_in F n h52 hro hn l Bs A cap xs w0 hC J Jx W hA hY (hB.trans (hW.mono hB.size)) ((hW.cell (p := ⟨Bs, 0, none⟩) hBs).trans hc) h0
def encP (x : S24) : List Value := [.int .u32 x.f0, .int .i64 x.f1]
theorem infoP : (Tryd.prog.info? 24).map (fun i => (i.zero, i.size, i.bytes)) = some (some (.agg #[.int .u32 0, .int .i64 0]), 2, 16) := by kernel_rfl
theorem cells_own' (B : Nat) (t : TypeId) {β : Type} (f : β → Array Value) : Own (fun s (W : World) => W.heap[B]? = some (.cells (f s) t (0, 0))) := by
  intro s X Y row hv hg hrow
  refine (hg.block B (Array.getElem?_eq_some_iff.1 hv).1 (fun e' => ?_)).trans hv
  obtain ⟨o, ho, hc⟩ := hrow B e'.symm
  rw [hv] at ho; cases ho; cases hc
theorem cell2 {W : World} {B : Nat} {u v : Value} {t : TypeId} (h : W.heap[B]? = some (.cells #[u, v] t (0, 0))) : W.cell? ⟨B, 0, none⟩ = some u ∧ W.cell? ⟨B, 1, none⟩ = some v := by
  constructor <;> simp [World.cell?, h]
theorem flat_len (l : List S24) : (l.flatMap encP).length = l.length * 2 := by
  induction l with
  | nil => rfl
  | cons x l ih => rw [List.flatMap_cons, List.length_append, ih, List.length_cons]; show 2 + _ = _; omega
set_option maxRecDepth 100000 in
set_option maxHeartbeats 4000000 in
/-- slices.AppendSeq(nil, seq) -/
theorem appendSeq_in (F : Fence) (n : Nat) (h57 : F.fn 53) (h52 : F.fn 39) (hro : F.round = none) (hn : 3 ≤ n) (Bs : Nat) (A : Option Addr) (cap : Nat) (xs : List S24) (w0 w : World) (hC : Kd.C k24 w0 A xs.length xs) (hl : xs.length ≤ 1000000) (hB : Below w0.heap.size w0 w) (hBs : Bs < w.heap.size)
    (hc : w.cell? ⟨Bs, 0, none⟩ = some (.slice A xs.length cap)) :
    CallsIn F n Tryd.prog 53 #[.slice none 0 0, .func (.func 39) #[] #[.pointer (some ⟨Bs, 0, none⟩)]] w fun e W' => ∃ v, e = .returned v ∧ W'.ownsRow w.heap.size 24 2 v xs.length (xs.flatMap encP) ∧ Below w.heap.size w W' := by
  have h1 : 1 ≤ n := by omega
  obtain ⟨i0, hi, hz0, hz1, hz2⟩ := info_parts infoP
  refine callsIn_of_wp_marks Tryd.func53 rfl h57 ?_ hro
  simp only [Tryd.ntmps53, List.size_toArray, List.length_cons, List.length_nil, Nat.reduceAdd, Nat.reduceSub, Array.replicate_succ, Array.replicate_zero, List.push_toArray, List.append_toArray, List.nil_append, List.cons_append]
  gi_wp2
  have bO := Boxed.new w 32 (.slice none 0 0)
  have hB0 : Below w.heap.size w (w.alloc (.cells #[.slice none 0 0] 32)) := (Below.refl _ w).alloc (Nat.le_refl _) _
  have hsz : (w.alloc (.cells #[.slice none 0 0] 32)).heap.size = w.heap.size + 1 := by simp
  obtain ⟨W0, hW0⟩ : ∃ W0, w.alloc (.cells #[.slice none 0 0] 32) = W0 := ⟨_, rfl⟩
  rw [hW0] at bO hB0 hsz ⊢
  clear hW0
  refine wpIn_rangeFunc_ownH hro h1 (gf := 39) (lb := #[.pointer (some ⟨Bs, 0, none⟩)]) rfl h52 (enters_of Tryd.func39 (by kernel_rfl) rfl)
    (values_stops F (n - 1) h52 hro (by omega) Bs A cap xs w0 W0 hC (hB.trans (hB0.mono hB.size)) (by omega) ((hB0.cell (p := ⟨Bs, 0, none⟩) hBs).trans hc)) belowK_t (belowK_b (by have := hB.size; omega)) (Below.refl _ _) (fun _ => rfl)
    (fun (pre : List S24) W => (∃ v, Boxed W w.heap.size 32 v ∧ W.ownsRow w.heap.size 24 2 v pre.length (pre.flatMap encP) ∧ True) ∧ Below w.heap.size w W)
    (fun _ _ _ => False)
    (OwnFrom.and (Own.from (holdsRow_own w.heap.size w.heap.size 32 24 2 (fun (pre : List S24) => pre.length) (fun pre => pre.flatMap encP) (fun _ _ => True)) _) (ownFrom_below (Nat.le_refl _) (by omega)))
    (fun _ _ _ _ _ hs _ _ => hs)
    ⟨⟨_, bO, World.ownsRow_nil _ _ _ _, trivial⟩, hB0⟩
    (fun (x : S24) a' W => ∃ Bx, W.heap[Bx]? = some (.cells #[.int .u32 x.f0, .int .i64 x.f1] 24 (0, 0)) ∧ a' = { tmps := #[.slice none 0 0, .func (.func 39) #[] #[.pointer (some ⟨Bs, 0, none⟩)], .pointer (some ⟨w.heap.size, 0, none⟩), undef, .slice none 0 0, .pointer (some ⟨Bx, 0, none⟩), .func (.func 39) #[] #[.pointer (some ⟨Bs, 0, none⟩)], .agg #[.int .u32 x.f0, .int .i64 x.f1], undef, undef, undef, undef, undef], defers := [] })
    (fun x a' _ X Y row hs hg hr => by obtain ⟨Bx, h2, h3⟩ := hs; exact ⟨Bx, cells_own' Bx 24 (fun (_ : Unit) => #[.int .u32 x.f0, .int .i64 x.f1]) () X Y row h2 hg (fun r e => (hr r e).2), h3⟩)
    ?assign ?body ?done ?stop
  case assign =>
    rintro l pre x W K ⟨⟨v, hv, hrow, _⟩, hB1⟩ hK
    gi_wp2
    exact hK _ _ ((KeepsOthers.alloc _ _).from _) ((Below.refl _ W).alloc (Nat.le_trans hB.size hB1.size) _) ⟨⟨v, hv.alloc _, hrow.alloc _, trivial⟩, hB1.alloc hB1.size _⟩ ⟨W.heap.size, World.alloc_heap_new W _, rfl⟩
  case body =>
    rintro l pre x a' W _ _ ⟨⟨v, hv, hrow, _⟩, hB1⟩ ⟨Bx, hx, rfl⟩ hlt
    have hc := hv.cell
    obtain ⟨hx0, hx1⟩ := cell2 hx
    gi_wp2_with (gi_at_builtin; refine wpListIn_append_own _ rfl _ _ 32 rfl w.heap.size 24 i0 (.agg #[.int .u32 0, .int .i64 0]) 2 16 Tryd.underlying32 hi hz0 hz1 hz2 rfl (by decide) _ _ _ rfl (hrow.alloc _) ⟨W.heap.size, 0, none⟩ 1 1 (encP x) rfl rfl (fun j u hu => by rw [WideShapes.add_plain, World.cell?_alloc_mark]; simpa [encP] using hu) (by simp [encP, Value.oneCell']) (by have : maxLen = 9223372036854775807 := rfl; omega) (by omega) (by have := hB1.size; simp; omega) ?_; intro v' w1 hown' hgrow _; obtain ⟨g', cap', rfl⟩ := ownsRow_succ hown'; obtain ⟨hv1, hv2, hr2, hk2, hb2⟩ := hv.appended (by decide) hrow hB1.size (Nat.le_refl _) hown' hgrow; have hc1 := hv1.cell; have hf1 := hv1.frozen)
    exact ⟨hk2.from _, hb2.mono hB.size, ⟨_, hv2, by rw [List.flatMap_append, List.length_append]; simpa using hr2, trivial⟩, hB1.trans hb2⟩
  case done =>
    rintro D ys W hD rfl ⟨⟨v, hv, hrow, _⟩, hB1⟩ hK
    have hc := hv.cell
    gi_wp2
    refine ⟨by simp, .inl ⟨_, _, rfl, run_takeDeferred hK, ?_⟩⟩
    exact ⟨_, results_tmp rfl _ _ _, v, rfl, ownsRow_putObj hrow _ hK rfl, hB1.trans (belowK_b (w := w) (Nat.le_refl _) W D _ _ (by omega) hK rfl rfl)⟩
  case stop =>
    rintro D c pre W _ _ h _
    exact h.elim
end Go.Proofs.YtckffheolnmcnabDoor.P

end
section
namespace Go.Proofs.YtckffheolnmcnabDoor.P
open Go.RowKit Go.Sort Go.Proofs.YtckffheolnmcnabDoorW.PrintWords Go.Proofs.YtckffheolnmcnabDoorW.PrintLast Go.Proofs.YtckffheolnmcnabDoorW.PrintMore
set_option linter.unusedVariables false
set_option linter.unusedSimpArgs false

instance : Inhabited S24 := ⟨⟨0, 0⟩⟩
/-- the cells of an own row -/
theorem own_cells {w : World} {base g n cap : Nat} {ok : Nat → Prop} {l : List S24} (h : Kd.R k24 24 w base ok (.slice (some ⟨g, 0, none⟩) n cap) l) :
    ∃ cur : Array Value, w.heap[g]? = some (.cells cur 24 (0, 0)) ∧ cur.size = cap * 2 ∧ n = l.length ∧ n ≤ cap ∧ cap ≤ maxLen ∧ base ≤ g ∧ ok g ∧
      ∀ (j : Nat) (x : S24), l[j]? = some x → ∀ (i : Nat) (u : Value), (encP x)[i]? = some u → cur.toList[j * 2 + i]? = some u := by
  obtain ⟨h0, inner, ⟨hl, hr⟩, hrep⟩ := h
  rcases hr with ⟨he, _⟩ | ⟨g', cap', cur, he, hb, hh, hn, hm, hs, ht⟩
  · cases he
  · injection he with e1 e2 e3
    injection e1 with e1
    injection e1 with e1
    subst e1; subst e2; subst e3
    refine ⟨cur, hh, hs, rfl, hn, hm, hb, h0 _ rfl, ?_⟩
    intro j x hx i u hu
    have e : (inner.drop (j * 2)).take 2 = encP x := k24_openM (hrep.2 j x hx)
    have hi3 : i < 2 := (List.getElem?_eq_some_iff.1 hu).1
    have this : inner[j * 2 + i]? = some u := by
      rw [← e, List.getElem?_take_of_lt hi3, List.getElem?_drop] at hu
      exact hu
    have ht' : cur.toList.take (l.length * 2) = inner := ht
    rw [← ht'] at this
    have hi : j * 2 + i < l.length * 2 := by
      have h1 : j < l.length := (List.getElem?_eq_some_iff.1 hx).1
      have h2 : i < (encP x).length := (List.getElem?_eq_some_iff.1 hu).1
      have h3 : (encP x).length = 2 := rfl
      rw [h3] at h2
      omega
    rwa [List.getElem?_take_of_lt hi] at this
theorem own_of_cells {w : World} {base g cap : Nat} {ok : Nat → Prop} {l : List S24} {cur : Array Value} (hh : w.heap[g]? = some (.cells cur 24 (0, 0))) (hs : cur.size = cap * 2) (hn : l.length ≤ cap) (hm : cap ≤ maxLen) (hb : base ≤ g) (hok : ok g)
    (hc : ∀ (j : Nat) (x : S24), l[j]? = some x → ∀ (i : Nat) (u : Value), (encP x)[i]? = some u → cur.toList[j * 2 + i]? = some u) :
    Kd.R k24 24 w base ok (.slice (some ⟨g, 0, none⟩) l.length cap) l := by
  have hsl : cur.toList.length = cap * 2 := by rw [Array.length_toList]; exact hs
  refine ⟨fun k hk => by simp [Value.ownBlock] at hk; subst hk; exact hok, cur.toList.take (l.length * 2), ⟨?_, .inr ⟨g, cap, cur, rfl, hb, hh, hn, hm, hs, rfl⟩⟩, ?_⟩
  · rw [List.length_take, hsl]
    show min (l.length * 2) (cap * 2) = l.length * 2
    omega
  · refine ⟨?_, ?_⟩
    · rw [List.length_take, hsl]
      show min (l.length * 2) (cap * 2) = l.length * 2
      omega
    · intro j x hx
      have e : ((cur.toList.take (l.length * 2)).drop (j * 2)).take 2 = encP x := by
        have h1 : j < l.length := (List.getElem?_eq_some_iff.1 hx).1
        apply List.ext_getElem?
        intro i
        by_cases hi : i < 2
        · rw [List.getElem?_take_of_lt hi, List.getElem?_drop, List.getElem?_take_of_lt (by omega)]
          have h2 : i < (encP x).length := hi
          rw [List.getElem?_eq_getElem h2]
          exact hc j x hx i _ (List.getElem?_eq_getElem h2)
        · rw [List.getElem?_eq_none (by rw [List.length_take]; omega), List.getElem?_eq_none (by show (encP x).length ≤ i; have : (encP x).length = 2 := rfl; omega)]
      show Kd.M k24 _ _ _ x (((cur.toList.take (l.length * 2)).drop (j * 2)).take 2)
      rw [e]
      exact k24_mkM _ _ _ _
theorem ordP_ord : Ord ordP := orI_ord (cmpI_ord.pull _) (cmpI_ord.pull _)
theorem ordP_zero (x y : S24) : ordP x y = 0 ↔ x = y := by
  cases x; cases y
  unfold ordP
  rw [orI_zero, cmpI_zero, cmpI_zero]; simp
def sortP (l : List S24) : List S24 := l.mergeSort fun x y => !(ltOf ordP) y x
theorem ordP_swo : SWO (ltOf ordP) := by
  refine ⟨fun x => ?_, fun x y z h1 h2 => ?_, fun x y z h1 h2 => ?_⟩
  · unfold ltOf; rw [ordP_ord.self]; rfl
  · unfold ltOf at *
    have h1 := of_decide_eq_true h1
    have h2 := of_decide_eq_true h2
    have h3 := ordP_ord.2 x y z (by omega) (by omega)
    have h4 := ordP_ord.zero (a := x) (b := y) (d := z) (by omega) (by omega)
    exact decide_eq_true (by omega)
  · unfold ltOf at *
    have h1 := of_decide_eq_false h1
    have h2 := of_decide_eq_false h2
    have e1 := ordP_ord.1 x y
    have e2 := ordP_ord.1 y z
    have e3 := ordP_ord.1 x z
    have h3 := ordP_ord.2 z y x (by omega) (by omega)
    exact decide_eq_false (by omega)
set_option maxHeartbeats 1000000 in
theorem sort_pre (v : Value) (l : List S24) (base : Nat) (w : World) (HR : Kd.R k24 24 w base (fun _ => True) v l) (hl : l.length ≤ 1000000) :
    Calls Tryd.prog 38 #[v, .func (.func 25) #[] #[]] w fun e w' => e = .returned (.tuple #[]) ∧ Kd.R k24 24 w' base (fun _ => True) v (sortP l) ∧ Below base w w' := by
  have hnil : ∀ (p : Option Addr) (cap : Nat), v = .slice p 0 cap → l = [] → Calls Tryd.prog 38 #[v, .func (.func 25) #[] #[]] w fun e w' => e = .returned (.tuple #[]) ∧ Kd.R k24 24 w' base (fun _ => True) v (sortP l) ∧ Below base w w' := by
    intro p cap hv e0
    subst hv
    refine (Go.Proofs.AnyF.slices_SortFunc_none Tryd.sortX p cap _ w).mono ?_
    rintro e w' ⟨rfl, rfl⟩
    refine ⟨rfl, ?_, Below.refl _ _⟩
    subst e0
    rw [show sortP [] = [] from by simp [sortP]]
    exact HR
  obtain ⟨p, cap, hv⟩ := Kd.R_slice HR
  by_cases h0 : l = []
  · exact hnil p cap (by rw [hv, h0]; rfl) h0
  · have hpos : 0 < l.length := List.length_pos_iff.2 h0
    obtain ⟨g, hg⟩ : ∃ g, p = some ⟨g, 0, none⟩ := by
      obtain ⟨_, inner, ⟨_, hr⟩, _⟩ := HR
      rcases hr with ⟨he, hz⟩ | ⟨g, cap', cur, he, _⟩
      · omega
      · rw [hv] at he
        injection he with e1
        exact ⟨g, e1⟩
    subst hg
    subst hv
    obtain ⟨cur, hh, hs, _, hn, hm, hb, _, hc⟩ := own_cells HR
    have hH : HoldsK encP 2 w g 0 l.toArray := by
      intro t ht
      rw [size_flatK] at ht
      have ht2 : t < l.length * 2 := by simpa using ht
      rw [get_flatK _ _ _ _ (by simpa using ht2)]
      have hj : t / 2 < l.length := by omega
      have hx : l[t / 2]? = some l.toArray[t / 2]! := by simp [hj]
      have hi : t % 2 < (encP l.toArray[t / 2]!).length := Nat.mod_lt _ (by decide)
      have hu : (encP l.toArray[t / 2]!)[t % 2]? = some (encP l.toArray[t / 2]!)[t % 2]! := by rw [List.getElem?_eq_getElem hi, getElem!_pos (encP l.toArray[t / 2]!) (t % 2) hi]
      have hcell := hc _ _ hx _ _ hu
      rw [show t / 2 * 2 + t % 2 = t by omega] at hcell
      rw [Nat.zero_add]
      refine ⟨?_, by simp [World.frozen?, hh]⟩
      rw [cell_of_row w g t cur _ (0, 0) hh, ← Array.getElem?_toList]
      exact hcell
    have hblk : g < w.heap.size := by
      rcases Nat.lt_or_ge g w.heap.size with h | h
      · exact h
      · rw [Array.getElem?_eq_none h] at hh; cases hh
    refine (Go.Proofs.AnyQ.slices_SortFunc_total Tryd.sortX 2 Tryd.isAgg24 Tryd.sizeOf24 encP (fun _ => rfl) (fun x u hu => by simp [encP] at hu; rcases hu with rfl | rfl <;> rfl) ordP ordP_swo 25 #[] g 0 cap l.toArray w (fun _ _ => by go_simp)
      (fun m os dk _ x y => (orderP_grow x y _).mono fun e w' h => h) hH hblk (by simp; omega) (fun x y h1 h2 => ?_)).mono ?_
    · unfold ltOf at h1 h2
      have h1 := of_decide_eq_false h1
      have h2 := of_decide_eq_false h2
      have e1 := ordP_ord.1 x y
      exact (ordP_zero x y).1 (by omega)
    · rintro e w' ⟨rfl, n, os, rfl⟩
      have hperm : (sortP l).length = l.length := by unfold sortP; exact List.length_mergeSort _
      refine ⟨rfl, ?_, ?_⟩
      · have hH2 := holdsK_sortWorldK_c encP 2 w g 0 l.toArray (sortP l).toArray n os hH hblk (by simp [hperm])
        have hcur2 : ∃ cur2 : Array Value, (sortWorldK encP 2 w g 0 n (sortP l).toArray os).heap[g]? = some (.cells cur2 24 (0, 0)) ∧ cur2.size = cur.size := by
          unfold sortWorldK putRowK
          rw [heap_grow_old _ _ (by rw [size_putRow]; exact hblk)]
          unfold putRow mapBlock
          refine ⟨putCells id 0 (flatK encP 2 (sortP l).toArray) cur, ?_, by simp [putCells]⟩
          show ((Go.Sort.ahead w n).heap.modify g _)[g]? = _
          rw [Array.getElem?_modify]
          show (if g = g then (w.heap[g]?).map _ else _) = _
          rw [if_pos rfl, hh]; rfl
        obtain ⟨cur2, h2, h3⟩ := hcur2
        rw [show l.length = (sortP l).length from hperm.symm]
        refine own_of_cells (l := sortP l) h2 (by rw [h3]; exact hs) (by rw [hperm]; exact hn) hm hb trivial ?_
        intro j x hx i u hu
        have hj : j < (sortP l).toArray.size := by have := (List.getElem?_eq_some_iff.1 hx).1; simpa using this
        have hi : i < 2 := (List.getElem?_eq_some_iff.1 hu).1
        have hcl := (HoldsK.cell hH2 hj hi).1
        rw [Nat.zero_add, cell_of_row _ g _ cur2 _ (0, 0) h2] at hcl
        have ex : (sortP l).toArray[j]! = x := by
          have := (List.getElem?_eq_some_iff.1 hx).2
          rw [getElem!_pos (sortP l).toArray j hj]; simpa using this
        rw [ex] at hcl
        rw [Array.getElem?_toList, hcl]
        have hu2 : i < (encP x).length := hi
        rw [List.getElem?_eq_getElem hu2] at hu
        rw [getElem!_pos (encP x) i hu2]
        exact hu
      · refine ⟨rfl, rfl, rfl, ?_, ?_⟩
        · unfold sortWorldK putRowK
          rw [size_grow, size_putRow]
          show w.heap.size ≤ w.heap.size + os.size
          omega
        · intro k hk
          unfold sortWorldK putRowK
          have hk2 : k < w.heap.size := by omega
          rw [heap_grow_old _ _ (by rw [size_putRow]; exact hk2)]
          unfold putRow mapBlock
          show ((Go.Sort.ahead w n).heap.modify g _)[k]? = _
          rw [Array.getElem?_modify, if_neg (by omega)]; rfl
end Go.Proofs.YtckffheolnmcnabDoor.P

end
section
namespace Go.Proofs.YtckffheolnmcnabDoor.P
open Go.RowKit Go.Shelf Go.Proofs.YtckffheolnmcnabDoorW.PrintWords Go.Proofs.YtckffheolnmcnabDoorW.PrintLast Go.Proofs.YtckffheolnmcnabDoorW.PrintMore
set_option linter.unusedVariables false
set_option linter.unusedSimpArgs false

theorem reps_flat (w : World) (xs : List S24) : Reps (((k24) : Kd S24).K w) 2 xs (xs.flatMap encP) := by
  refine ⟨flat_len xs, fun j p hj => ?_⟩
  have e : ((xs.flatMap encP).drop (j * 2)).take 2 = encP p := by
    induction xs generalizing j with
    | nil => cases hj
    | cons x xs ih =>
      cases j with
      | zero => simp at hj; subst hj; rfl
      | succ j =>
        have hj' : xs[j]? = some p := by simpa using hj
        have := ih j hj'
        rw [List.flatMap_cons, show (j + 1) * 2 = (encP x).length + j * 2 from by show (j + 1) * 2 = 2 + j * 2; omega, List.drop_append]
        have h0 : (encP x).drop ((encP x).length + j * 2) = [] := List.drop_eq_nil_of_le (by omega)
        rw [h0, List.nil_append, Nat.add_sub_cancel_left]
        exact this
  show Kd.K k24 w p (((xs.flatMap encP).drop (j * 2)).take 2)
  rw [e]
  exact k24_mk w p
set_option maxHeartbeats 1000000 in
set_option maxRecDepth 100000 in
theorem collect_pre (Bs : Nat) (A : Option Addr) (cap : Nat) (xs : List S24) (w0 w : World) (hC : Kd.C k24 w0 A xs.length xs) (hl : xs.length ≤ 1000000) (hB : Below w0.heap.size w0 w) (hBs : Bs < w.heap.size)
    (hc : w.cell? ⟨Bs, 0, none⟩ = some (.slice A xs.length cap)) :
    Calls Tryd.prog 37 #[.func (.func 39) #[] #[.pointer (some ⟨Bs, 0, none⟩)]] w fun e w' => ∃ v : Value, e = .returned v ∧ Kd.R k24 24 w' w.heap.size (fun _ => True) v xs ∧ Below w.heap.size w w' := by
  have HS := mkHid ((callsIn_wide (n := 3)).1 (appendSeq_in Fence.wide 3 trivial trivial rfl (by omega) Bs A cap xs w0 w hC hl hB hBs hc))
  clear hC hl hB hBs hc
  go_enter Tryd.func37, Tryd.ntmps37
  go_wp2_with fail
  refine HS.out.mono ?_
  rintro e w' ⟨v, rfl, hown, hb⟩
  have hR : Kd.R k24 24 w' w.heap.size (fun _ => True) v xs := flat_own (d := k24) (w := w') (fun hK w1 b ok => by rw [k24_open hK]; exact k24_mkM _ _ _ _) hown rfl (reps_flat w' xs)
  obtain ⟨A1, c1, rfl⟩ := Kd.R_slice hR
  have HR := mkHid hR
  have HB := mkHid hb
  clear hR hown hb
  go_wp2_with fail
  go_ret
  exact ⟨_, rfl, HR.out, HB.out⟩
set_option maxHeartbeats 1000000 in
set_option maxRecDepth 100000 in
theorem sorted_pre (Bs : Nat) (A : Option Addr) (cap : Nat) (xs : List S24) (w0 w : World) (hC : Kd.C k24 w0 A xs.length xs) (hl : xs.length ≤ 1000000) (hB : Below w0.heap.size w0 w) (hBs : Bs < w.heap.size)
    (hc : w.cell? ⟨Bs, 0, none⟩ = some (.slice A xs.length cap)) :
    Calls Tryd.prog 23 #[.func (.func 39) #[] #[.pointer (some ⟨Bs, 0, none⟩)], .func (.func 25) #[] #[]] w fun e w' => ∃ v : Value, e = .returned v ∧ Kd.R k24 24 w' w.heap.size (fun _ => True) v (sortP xs) ∧ Below w.heap.size w w' := by
  have HS := mkHid (collect_pre Bs A cap xs w0 w hC hl hB hBs hc)
  have HL := mkHid hl
  clear hC hl hB hBs hc
  go_enter Tryd.func23, Tryd.ntmps23
  go_wp2_with fail
  refine HS.out.mono ?_
  rintro e w1 ⟨v, rfl, hR, hb⟩
  obtain ⟨A1, c1, rfl⟩ := Kd.R_slice hR
  have HR := mkHid hR
  have HB := mkHid hb
  clear hR hb
  go_wp2_with fail
  refine (sort_pre _ xs w.heap.size w1 HR.out HL.out).mono ?_
  rintro e w2 ⟨rfl, hR, hb⟩
  have HR2 := mkHid hR
  have HB2 := mkHid (HB.out.trans hb)
  clear hR hb
  go_wp2_with fail
  go_ret
  exact ⟨_, rfl, HR2.out, HB2.out⟩
end Go.Proofs.YtckffheolnmcnabDoor.P

end
section
namespace Go.Proofs.YtckffheolnmcnabDoor.P
open Go.RowKit Go.Shelf Go.Proofs.YtckffheolnmcnabDoorW.PrintWords Go.Proofs.YtckffheolnmcnabDoorW.PrintLast Go.Proofs.YtckffheolnmcnabDoorW.PrintMore
set_option linter.unusedVariables false
set_option linter.unusedSimpArgs false

theorem own_cell {w : World} {base g n cap : Nat} {ok : Nat → Prop} {l : List S24} (h : Kd.R k24 24 w base ok (.slice (some ⟨g, 0, none⟩) n cap) l) {j o : Nat} {x : S24} (hx : l[j]? = some x) (ho : o = j * 2) :
    w.cell? ⟨g, o, none⟩ = some (.int .u32 x.f0) ∧ w.cell? ⟨g, o + 1, none⟩ = some (.int .i64 x.f1) := by
  subst ho
  obtain ⟨cur, hh, _, _, _, _, _, _, hc⟩ := own_cells h
  constructor
  · rw [cell_of_row w g _ cur _ (0, 0) hh, ← Array.getElem?_toList]; exact hc j x hx 0 _ rfl
  · rw [cell_of_row w g _ cur _ (0, 0) hh, ← Array.getElem?_toList]; exact hc j x hx 1 _ rfl
theorem own_frozen {w : World} {base g n cap : Nat} {ok : Nat → Prop} {l : List S24} (h : Kd.R k24 24 w base ok (.slice (some ⟨g, 0, none⟩) n cap) l) (o : Nat) : w.frozen? ⟨g, o, none⟩ = false := by
  obtain ⟨cur, hh, _⟩ := own_cells h
  simp [World.frozen?, hh]
theorem own_take {w : World} {base g n cap m : Nat} {ok : Nat → Prop} {l : List S24} (h : Kd.R k24 24 w base ok (.slice (some ⟨g, 0, none⟩) n cap) l) (hm : m ≤ n) :
    Kd.R k24 24 w base ok (.slice (some ⟨g, 0, none⟩) m cap) (l.take m) := by
  obtain ⟨cur, hh, hs, hn, hnc, hmx, hb, hok, hc⟩ := own_cells h
  have hl : (l.take m).length = m := by rw [List.length_take]; omega
  have := own_of_cells (ok := ok) (l := l.take m) hh hs (by omega) hmx hb hok (fun j x hx i u hu => by
    have hj : j < m := by have := (List.getElem?_eq_some_iff.1 hx).1; omega
    rw [List.getElem?_take_of_lt hj] at hx
    exact hc j x hx i u hu)
  rw [hl] at this
  exact this
theorem own_bits {w w0 : World} {base g n cap j : Nat} {ok : Nat → Prop} {l : List S24} {x : S24} (h : Kd.R k24 24 w base ok (.slice (some ⟨g, 0, none⟩) n cap) l) (hx : l[j]? = some x) (v : Int) (hB : Below base w0 w) :
    Kd.R k24 24 (w.setCell ⟨g, j * 2 + 1, none⟩ (.int .i64 v)) base ok (.slice (some ⟨g, 0, none⟩) n cap) (l.set j ⟨x.f0, v⟩) ∧ Below base w0 (w.setCell ⟨g, j * 2 + 1, none⟩ (.int .i64 v)) := by
  obtain ⟨cur, hh, hs, hn, hnc, hmx, hb, hok, hc⟩ := own_cells h
  have hj : j < l.length := (List.getElem?_eq_some_iff.1 hx).1
  refine ⟨?_, hB.setCell (p := ⟨g, j * 2 + 1, none⟩) hb _⟩
  have hfit : j * 2 + 1 + [Value.int .i64 v].length ≤ cur.size := by rw [hs]; show j * 2 + 1 + 1 ≤ cap * 2; omega
  obtain ⟨cur', h3, h4, h5⟩ := setCells_row [Value.int .i64 v] (j * 2 + 1) w cur hh hfit
  have hl : (l.set j ⟨x.f0, v⟩).length = l.length := List.length_set
  have hc0 := hc j x hx 0 _ rfl
  have := own_of_cells (ok := ok) (l := l.set j ⟨x.f0, v⟩) h3 (by rw [h4]; exact hs) (by rw [hl]; omega) hmx hb hok (fun i y hy q u hu => by
    have hq : q < 2 := (List.getElem?_eq_some_iff.1 hu).1
    have hi : i < l.length := by have := (List.getElem?_eq_some_iff.1 hy).1; omega
    have hsz : cur.toList.length = cap * 2 := by rw [Array.length_toList]; exact hs
    have htl : (cur.toList.take (j * 2 + 1)).length = j * 2 + 1 := by rw [List.length_take]; omega
    rw [h5]
    show (cur.toList.take (j * 2 + 1) ++ [Value.int .i64 v] ++ cur.toList.drop (j * 2 + 1 + 1))[i * 2 + q]? = some u
    by_cases hij : i = j
    · subst hij
      rw [List.getElem?_set_self hj] at hy
      obtain rfl := Option.some.inj hy
      match q with
      | 0 =>
        rw [List.append_assoc, List.getElem?_append_left (by omega), List.getElem?_take_of_lt (by omega)]
        simp [encP] at hu
        subst hu
        exact hc0
      | 1 =>
        rw [List.append_assoc, List.getElem?_append_right (by omega), htl, Nat.sub_self]
        exact hu
      | q + 2 => omega
    · rw [List.getElem?_set_ne (fun e => hij e.symm)] at hy
      have := hc i y hy q u hu
      by_cases hlt : i < j
      · rw [List.append_assoc, List.getElem?_append_left (by omega), List.getElem?_take_of_lt (by omega)]
        exact this
      · rw [List.getElem?_append_right (by rw [List.length_append, htl]; show j * 2 + 1 + 1 ≤ _; omega), List.length_append, htl, List.getElem?_drop]
        rw [show j * 2 + 1 + 1 + (i * 2 + q - (j * 2 + 1 + [Value.int .i64 v].length)) = i * 2 + q by show j * 2 + 1 + 1 + (i * 2 + q - (j * 2 + 1 + 1)) = _; omega]
        exact this)
  rw [hl, ← hn] at this
  exact this
theorem ownP_at {w : World} {base n c : Nat} {A : Option Addr} {ok : Nat → Prop} {l : List S24} (h : Kd.R k24 24 w base ok (.slice A n c) l) (hn : 0 < l.length) : ∃ g, A = some ⟨g, 0, none⟩ := by
  obtain ⟨_, inner, ⟨_, hr⟩, _⟩ := h
  rcases hr with ⟨he, hz⟩ | ⟨g, cap', cur, he, _⟩
  · omega
  · injection he with e1
    exact ⟨g, e1⟩
theorem con_keep (y p : S24) (b : Bool) (h : addr_Contains.f y.f0 y.f1 p.f0 p.f1 = some b) (g o B : Nat) (w : World) (k0 : w.cell? ⟨g, o, none⟩ = some (.int .u32 y.f0)) (k1 : w.cell? ⟨g, o + 1, none⟩ = some (.int .i64 y.f1)) (k2 : w.cell? ⟨B, 0, none⟩ = some (.int .u32 p.f0)) (k3 : w.cell? ⟨B, 1, none⟩ = some (.int .i64 p.f1)) :
    Calls Tryd.prog 29 #[.agg #[.int .u32 y.f0, .int .i64 y.f1], .agg #[.int .u32 p.f0, .int .i64 p.f1]] w fun e w' => e = .returned (.bool b) ∧ (w'.cell? ⟨g, o, none⟩ = some (.int .u32 y.f0) ∧ w'.cell? ⟨g, o + 1, none⟩ = some (.int .i64 y.f1) ∧ w'.cell? ⟨B, 0, none⟩ = some (.int .u32 p.f0) ∧ w'.cell? ⟨B, 1, none⟩ = some (.int .i64 p.f1)) ∧ Below w.heap.size w w' :=
  (addr_Contains.calls _ _ _ _ _ w h).mono fun e w' ⟨he, hb⟩ => ⟨he, ⟨(hb.cell (p := ⟨g, o, none⟩) (World.block_lt_of_cell? _ _ k0)).trans k0, (hb.cell (p := ⟨g, o + 1, none⟩) (World.block_lt_of_cell? _ _ k1)).trans k1, (hb.cell (p := ⟨B, 0, none⟩) (World.block_lt_of_cell? _ _ k2)).trans k2, (hb.cell (p := ⟨B, 1, none⟩) (World.block_lt_of_cell? _ _ k3)).trans k3⟩, hb⟩
theorem sis_keep (k : Nat) (x y : S24) (b : Bool) (h : addr_sister.f k x.f0 x.f1 y.f0 y.f1 = some b) (g o o2 : Nat) (w : World) (k0 : w.cell? ⟨g, o, none⟩ = some (.int .u32 x.f0)) (k1 : w.cell? ⟨g, o + 1, none⟩ = some (.int .i64 x.f1)) (k2 : w.cell? ⟨g, o2, none⟩ = some (.int .u32 y.f0)) (k3 : w.cell? ⟨g, o2 + 1, none⟩ = some (.int .i64 y.f1)) :
    Calls Tryd.prog 30 #[.agg #[.int .u32 x.f0, .int .i64 x.f1], .agg #[.int .u32 y.f0, .int .i64 y.f1]] w fun e w' => e = .returned (.bool b) ∧ (w'.cell? ⟨g, o, none⟩ = some (.int .u32 x.f0) ∧ w'.cell? ⟨g, o + 1, none⟩ = some (.int .i64 x.f1) ∧ w'.cell? ⟨g, o2, none⟩ = some (.int .u32 y.f0) ∧ w'.cell? ⟨g, o2 + 1, none⟩ = some (.int .i64 y.f1)) ∧ Below w.heap.size w w' :=
  (addr_sister.calls _ _ _ _ _ _ w h).mono fun e w' ⟨he, hb⟩ => ⟨he, ⟨(hb.cell (p := ⟨g, o, none⟩) (World.block_lt_of_cell? _ _ k0)).trans k0, (hb.cell (p := ⟨g, o + 1, none⟩) (World.block_lt_of_cell? _ _ k1)).trans k1, (hb.cell (p := ⟨g, o2, none⟩) (World.block_lt_of_cell? _ _ k2)).trans k2, (hb.cell (p := ⟨g, o2 + 1, none⟩) (World.block_lt_of_cell? _ _ k3)).trans k3⟩, hb⟩
end Go.Proofs.YtckffheolnmcnabDoor.P

end
section
namespace Go.Proofs.YtckffheolnmcnabDoor.P
open Go.RowKit Go.Proofs.YtckffheolnmcnabDoorW.PrintWords Go.Proofs.YtckffheolnmcnabDoorW.PrintLast Go.Proofs.YtckffheolnmcnabDoorW.PrintMore
attribute [local go_sem] max2_int min2_int max_two min_two max_three min_three max_four min_four   -- for this text's walks alone
set_option linter.unusedVariables false
set_option linter.unusedSimpArgs false

def addr_plain.up (k : Nat) : Nat → List S24 → Option (List S24)
  | n + 1, y :: x :: r => (addr_sister.f k x.f0 x.f1 y.f0 y.f1).bind fun b => if b = true then addr_plain.up k n (⟨x.f0, wrap64 (x.f1 - 1)⟩ :: r) else some (y :: x :: r)
  | _, s => some s
def addr_plain.go (k : Nat) : List S24 → List S24 → Option (List S24)
  | s, [] => some s
  | [], p :: l => addr_plain.go k [p] l
  | y :: s, p :: l => (addr_Contains.f y.f0 y.f1 p.f0 p.f1).bind fun b => if b = true then addr_plain.go k (y :: s) l else (addr_plain.up k (s.length + 1) (p :: y :: s)).bind fun z => addr_plain.go k z l
def addr_plain.f (k : Nat) (l0 : List S24) : Option (List S24) := if l0.length ≤ 1000000 then (addr_plain.go k [] (sortP l0)).bind fun z => some z.reverse else none
theorem addr_plain.up_mono (k : Nat) : ∀ n s, LeO (addr_plain.up k n s) (addr_plain.up (k + 1) n s) := by
  intro n
  induction n with
  | zero => intro s; unfold addr_plain.up; exact LeO.refl _
  | succ n ih =>
    intro s
    match s with
    | [] => exact LeO.refl _
    | [x] => exact LeO.refl _
    | y :: x :: r =>
      show LeO (Option.bind _ _) (Option.bind _ _)
      refine LeO.bind (addr_sister.mono _ _ _ _ _) (fun b => ?_)
      split
      · exact ih _
      · exact LeO.refl _
theorem addr_plain.go_mono (k : Nat) : ∀ l s, LeO (addr_plain.go k s l) (addr_plain.go (k + 1) s l) := by
  intro l
  induction l with
  | nil => intro s; cases s <;> exact LeO.refl _
  | cons p l ih =>
    intro s
    cases s with
    | nil => exact ih _
    | cons y s =>
      show LeO (Option.bind _ _) (Option.bind _ _)
      refine LeO.bind (LeO.refl _) (fun b => ?_)
      split
      · exact ih _
      · exact LeO.bind (addr_plain.up_mono _ _ _) (fun z => ih _)
theorem addr_plain.mono : ∀ a0 k, LeO (addr_plain.f k a0) (addr_plain.f (k + 1) a0) := by
  intro a0 k
  unfold addr_plain.f
  split
  · exact LeO.bind (addr_plain.go_mono _ _ _) (fun _ => LeO.refl _)
  · exact LeO.refl _
set_option maxHeartbeats 4000000 in
set_option maxRecDepth 100000 in
theorem addr_plain.calls (k : Nat) (A0 : Option Addr) (c0 : Nat) (l0 : List S24) (r : List S24) (w : World) (hr0 : Kd.C k24 w A0 l0.length l0) (hc0 : l0.length ≤ c0) (h : addr_plain.f k l0 = some r) :
    Calls Tryd.prog 17 #[.slice A0 l0.length c0] w fun e w' => ∃ v0_ : Value, e = .returned v0_ ∧ Kd.R k24 24 w' w.heap.size (fun _ => True) v0_ r ∧ Below w.heap.size w w' := by
  have hmax := Kd.C_max hr0
  obtain ⟨i0_, hi_, hz0_, hz1_, hz2_⟩ := info_parts infoP
  have HI := mkHid hi_
  clear hi_ hz0_ hz1_ hz2_
  unfold addr_plain.f at h
  split at h
  · rename_i hl
    obtain ⟨z, hz, h1⟩ := Option.bind_eq_some_iff.mp h
    obtain rfl := Option.some.inj h1
    have HR0 := mkHid hr0
    have HL := mkHid hl
    have HZ0 := mkHid hz
    clear hr0 hz h hl h1
    go_enter Tryd.func17, Tryd.ntmps17
    go_wp2_with fail
    refine ((callsIn_wide (n := 1)).1 (values_in Fence.wide 1 trivial rfl _ _ _ _)).mono ?_
    rintro e w1 ⟨rfl, hw1⟩
    have HB1 : Hid (Below w.heap.size w w1) := by rw [hw1]; exact (Below.refl _ w).alloc (Nat.le_refl _) _
    have HC1 : Hid (w1.cell? ⟨w.heap.size, 0, none⟩ = some (.slice A0 l0.length c0)) := by unfold Hid; rw [hw1]; go_simp
    have HS1 : Hid (w.heap.size < w1.heap.size) := by unfold Hid; rw [hw1]; simp
    clear hw1
    go_wp2_with fail
    refine (sorted_pre w.heap.size A0 c0 l0 w w1 HR0.out HL.out HB1.out HS1.out HC1.out).mono ?_
    rintro e w2 ⟨v2, rfl, hR, hb⟩
    obtain ⟨A2, c2, rfl⟩ := Kd.R_slice hR
    obtain ⟨l, hl⟩ : ∃ l, l = sortP l0 := ⟨_, rfl⟩
    have HZ : Hid (addr_plain.go k [] l = some z) := by rw [hl]; exact HZ0.out
    rw [← hl] at hR ⊢
    have HS2 := mkHid (Kd.R_reads' hR).2.2
    have HB2 := mkHid (below_step HB1.out hb)
    have hlen : l.length ≤ 1000000 := by rw [hl]; unfold sortP; rw [List.length_mergeSort]; exact HL.out
    have hw2 : w.heap.size ≤ w2.heap.size := HB2.out.size
    clear hR hb hl HC1 HZ0
    go_wp2_with fail
    go_loopg [3, 11] l.length (fun kq v3 v11 wr => ∃ (i : Int) (s : List S24), v11 = .int .i64 i ∧ 0 ≤ i ∧ i ≤ l.length ∧ Hid (i + kq = l.length) ∧ Hid ((s.length : Int) ≤ i) ∧ Hid (addr_plain.go k s (l.drop i.toNat) = some z) ∧ Hid (Kd.R k24 24 wr w2.heap.size (fun _ => True) v3 s.reverse) ∧ Hid (Below w2.heap.size w2 wr))
    case atStart => exact ⟨0, [], rfl, by omega, by omega, by unfold Hid; omega, by unfold Hid; simp, HZ.out, Kd.R_nil _ _ _ _ _, Below.refl _ _⟩
    case round =>
      clear HZ
      obtain ⟨i, s, rfl, i0, il, hk, hsl, HZ, HR, HB⟩ := hrel
      have hk1 := hk.out
      have hsl1 := hsl.out
      obtain ⟨A3, c3, h3⟩ := Kd.R_slice HR.out
      rw [List.length_reverse] at h3
      subst h3
      by_cases hil : i < l.length
      · have q1 : decide (i < (l.length : Int)) = true := decide_eq_true hil
        obtain ⟨p, hp⟩ : ∃ p, l[i.toNat]? = some p := ⟨_, List.getElem?_eq_getElem (h := by omega)⟩
        obtain ⟨ad, hA', hc0, hc1⟩ := at_T24 (Kd.C_below HS2.out HB.out) i i0 (by omega)
        subst hA'
        have hpe : rd_T24 l i = p := by unfold rd_T24; rw [List.getD_eq_getElem?_getD, hp]; rfl
        rw [hpe] at hc0 hc1
        have hdp : l.drop i.toNat = p :: l.drop (i.toNat + 1) := by
          obtain ⟨hh, e⟩ := List.getElem?_eq_some_iff.1 hp
          rw [List.drop_eq_getElem_cons hh, e]
        have HDP := mkHid hdp
        have hw1 : IntKind.i64.wrap (i + 1) = i + 1 := IntWalk.i64_in _ (by omega)
        have HRW : Hid (Kd.R k24 24 (wr.alloc (.cells #[.int .u32 p.f0, .int .i64 p.f1] 24)) w2.heap.size (fun _ => True) (.slice A3 s.length c3) s.reverse) := Kd.R_alloc HR.out _
        have HBW : Hid (Below w2.heap.size w2 (wr.alloc (.cells #[.int .u32 p.f0, .int .i64 p.f1] 24))) := HB.out.alloc HB.out.size _
        clear hp hdp hpe
        go_upto_region 6 with fail
        obtain ⟨W, hW⟩ : ∃ W, W = wr.alloc (.cells #[.int .u32 p.f0, .int .i64 p.f1] 24) := ⟨_, rfl⟩
        rw [← hW] at HRW HBW ⊢
        have p0 : W.cell? ⟨wr.heap.size, 0, none⟩ = some (.int .u32 p.f0) := by rw [hW]; go_simp
        have p1 : W.cell? ⟨wr.heap.size, 1, none⟩ = some (.int .i64 p.f1) := by rw [hW]; go_simp
        have hWs : wr.heap.size < W.heap.size := by rw [hW]; simp
        clear hW hc0 hc1 HR HB
        obtain ⟨n, hn⟩ : ∃ n : Nat, n = s.length := ⟨_, rfl⟩
        rw [← hn] at HRW ⊢
        obtain ⟨m, hm⟩ : ∃ m : Int, m = n := ⟨_, rfl⟩
        rw [← hm]
        go_cut [27] (fun v27 wc => ∃ b : Bool, v27 = .bool b ∧ Hid ((if b = true then addr_plain.go k s (l.drop (i.toNat + 1)) else (addr_plain.up k s.length (p :: s)).bind fun z' => addr_plain.go k z' (l.drop (i.toNat + 1))) = some z) ∧ Hid (Kd.R k24 24 wc w2.heap.size (fun _ => True) (.slice A3 n c3) s.reverse) ∧ Hid (Below w2.heap.size w2 wc) ∧ wc.cell? ⟨wr.heap.size, 0, none⟩ = some (.int .u32 p.f0) ∧ wc.cell? ⟨wr.heap.size, 1, none⟩ = some (.int .i64 p.f1) ∧ wr.heap.size < wc.heap.size)
        case first =>
          cases s with
          | nil =>
            have q2 : decide (m > 0) = false := decide_eq_false (by simp at hn; omega)
            go_quiet (fail)
            go_wp2_with fail
            go_meet
            case rel =>
              refine ⟨false, rfl, ?_, Kd.R_drewN HRW.out _, pw_below_drewN HBW.out _, by go_simp, by go_simp, hWs⟩
              have := HZ.out
              rw [HDP.out] at this
              exact this
          | cons y s =>
            have q2 : decide (m > 0) = true := decide_eq_true (by simp at hn; omega)
            have hZ := HZ.out
            rw [HDP.out] at hZ
            obtain ⟨b, hb, hZ⟩ := Option.bind_eq_some_iff.mp hZ
            have HCB := mkHid hb
            have HZB : Hid ((if b = true then addr_plain.go k (y :: s) (l.drop (i.toNat + 1)) else (addr_plain.up k (s.length + 1) (p :: y :: s)).bind fun z' => addr_plain.go k z' (l.drop (i.toNat + 1))) = some z) := hZ
            clear hb hZ HZ
            obtain ⟨g, rfl⟩ := ownP_at HRW.out (by simp)
            have hn1 : n = s.length + 1 := hn
            have hw2' : IntKind.i64.wrap (m - 1) = m - 1 := IntWalk.i64_in _ (by omega)
            have m0 : 0 ≤ m - 1 := by omega
            have m1 : m - 1 < (n : Int) := by omega
            have m2 : 1 ≤ m := by omega
            have m3 : m ≤ (n : Int) := by omega
            have hd : W.cell? ⟨g, (m.toNat - 1) * 2, none⟩ = some (.int .u32 y.f0) ∧ W.cell? ⟨g, (m.toNat - 1) * 2 + 1, none⟩ = some (.int .i64 y.f1) := own_cell HRW.out (show (y :: s).reverse[(m.toNat - 1)]? = some y by
              have : (m.toNat - 1) = s.length := by omega
              rw [this, List.reverse_cons, List.getElem?_append_right (by simp)]; simp) rfl
            obtain ⟨d0, d1⟩ := hd
            have HM := mkHid hm
            have HN := mkHid hn1
            clear hm hn hn1
            go_region_held3 (fun w' => w'.cell? ⟨g, (m.toNat - 1) * 2, none⟩ = some (.int .u32 y.f0) ∧ w'.cell? ⟨g, (m.toNat - 1) * 2 + 1, none⟩ = some (.int .i64 y.f1) ∧ w'.cell? ⟨wr.heap.size, 0, none⟩ = some (.int .u32 p.f0) ∧ w'.cell? ⟨wr.heap.size, 1, none⟩ = some (.int .i64 p.f1)) (go_keep)
              (first | (go_at_call 29; refine (con_keep y p b HCB.out g ((m.toNat - 1) * 2) wr.heap.size _ ?_ ?_ ?_ ?_).mono ?_; (go_simp); (go_simp); (go_simp); (go_simp); rintro e w' ⟨rfl, ⟨k0, k1, k2, k3⟩, hb⟩))
            all_goals
              have HB3 : Hid (Below W.heap.size W w') := below_step (by repeat (first | exact Below.refl _ _ | apply pw_below_drewN | apply below_drew)) hb
              clear hb d0 d1 p0 p1
              go_wp2_with fail
              go_meet
              case rel =>
                exact ⟨b, rfl, HZB.out, Kd.R_below HRW.out HB3.out, HBW.out.trans (HB3.out.mono HBW.out.size), k2, k3, Nat.lt_of_lt_of_le hWs HB3.out.size⟩
        case rest =>
          clear HRW HBW p0 p1 HZ hWs
          obtain ⟨b, rfl, HZ, HRW, HBW, p0, p1, hws⟩ := hcut
          cases b with
          | true =>
            go_wp2_with fail
            go_roundg (l.length - i.toNat - 1)
            case measure => omega
            case rel => exact ⟨i + 1, s, rfl, by omega, by omega, by unfold Hid; omega, by unfold Hid; omega, by rw [show (i + 1).toNat = i.toNat + 1 by omega]; exact HZ.out, by rw [← hn]; exact HRW.out, HBW.out⟩
          | false =>
            have hns : n ≤ 1000000 := by omega
            have HN := mkHid hn
            clear hn hm
            go_wp2_with (at_builtin; refine Kd.R_append k24 (w0 := w2) w2.heap.size ?a1 (.tmp 28) (.tmp 30) 32 24 (.agg #[.int .u32 0, .int .i64 0]) 16 ?a2 ?a3 ?a4 ?a5 ?a6 ?a7 (.slice A3 n c3) s.reverse p [.int .u32 p.f0, .int .i64 p.f1] (fun _ => True) (fun _ => False) ?a8 ?a9 ?aP ?aE ?aF ?aO ?aB ?aS ?aL ?_; (case a1 => rfl); (case a2 => rfl); (case a3 => exact Tryd.underlying32); (case a4 => exact infoP); (case a5 => rfl); (case a6 => decide); (case a7 => omega); (case a8 => rfl); (case a9 => rfl); (case aP => exact k24_mkM _ _ _ p); (case aE => exact fun _ h => h.elim); (case aF => exact fun _ _ => trivial); (case aO => exact HRW.out); (case aB => exact HBW.out); (case aS => exact HBW.out.size); (case aL => rw [List.length_reverse, ← HN.out]; omega); intro v1 w3 hR3 hB3 _ _; rw [← List.reverse_cons] at hR3; obtain ⟨A4, c4, h4⟩ := Kd.R_slice hR3; obtain ⟨n4, hn4⟩ : ∃ n4 : Nat, n4 = (p :: s).reverse.length := ⟨_, rfl⟩; rw [← hn4] at h4; subst h4)
            have HR3 := mkHid hR3
            have HB3 := mkHid hB3
            rw [List.length_reverse] at hn4
            have hn5 : n4 = s.length + 1 := hn4
            have hn6 : (n4 : Int) ≤ i + 1 := by have := HN.out; omega
            have HN4 := mkHid hn4
            clear hR3 hB3 HRW HBW p0 p1 hn4 HN hns
            have hno : ∀ (t : List S24) (r : List S24), Hid ((addr_plain.up k (t.length - 1) t).bind (fun z' => addr_plain.go k z' r) = some z) → t.length ≤ 1 → addr_plain.go k t r = some z := by
              intro t r ht hl
              have := ht.out
              match t, hl with
              | [], _ => exact this
              | [y], _ => exact this
            have HNO := mkHid hno
            clear hno
            go_loopg [3, 6] n4 (fun kq v3 v6 wx => ∃ (t : List S24) (A : Option Addr) (n c : Nat) (m : Int), v3 = .slice A n c ∧ v6 = .int .i64 m ∧ m = n ∧ (n : Int) ≤ i + 1 ∧ n ≤ kq ∧ Hid (n = t.length) ∧ Hid ((addr_plain.up k (t.length - 1) t).bind (fun z' => addr_plain.go k z' (l.drop (i.toNat + 1))) = some z) ∧ Hid (Kd.R k24 24 wx w2.heap.size (fun _ => True) (.slice A n c) t.reverse) ∧ Hid (Below w2.heap.size w2 wx))
            case atStart => exact ⟨p :: s, A4, n4, c4, n4, by first | rfl | (rw [hn5]; rfl) | (simp [hn5]; done), by first | rfl | (rw [hn5]; rfl) | (simp [hn5]; done), rfl, hn6, Nat.le_refl _, HN4.out, HZ.out, HR3.out, HB3.out⟩
            case round =>
              clear HR3 HB3 HZ hn6 hn5 HN4
              obtain ⟨t, A, n, c, m, rfl, rfl, hm, hni, hnk, hn, HZ, HR, HB⟩ := hrel
              have hn1 := hn.out
              by_cases hn2 : 1 < n
              · obtain ⟨y, x, r, rfl⟩ : ∃ y x r, t = y :: x :: r := by
                  match t, hn1 with
                  | [], h => simp at h; omega
                  | [y], h => simp at h; omega
                  | y :: x :: r, _ => exact ⟨y, x, r, rfl⟩
                have hl2 : n = r.length + 2 := hn1
                have hZ : ((addr_sister.f k x.f0 x.f1 y.f0 y.f1).bind fun b => if b = true then addr_plain.up k r.length (⟨x.f0, wrap64 (x.f1 - 1)⟩ :: r) else some (y :: x :: r)).bind (fun z' => addr_plain.go k z' (l.drop (i.toNat + 1))) = some z := HZ.out
                obtain ⟨z1, hz1, hz2⟩ := Option.bind_eq_some_iff.mp hZ
                obtain ⟨b, hb, hz1⟩ := Option.bind_eq_some_iff.mp hz1
                have HSB := mkHid hb
                have q2 : decide (m > 1) = true := decide_eq_true (by omega)
                obtain ⟨g, rfl⟩ := ownP_at HR.out (by simp)
                have hwa : IntKind.i64.wrap (m - 1) = m - 1 := IntWalk.i64_in _ (by omega)
                have hwb : IntKind.i64.wrap (m - 2) = m - 2 := IntWalk.i64_in _ (by omega)
                have m0 : 0 ≤ m - 1 := by omega
                have m1 : m - 1 < (n : Int) := by omega
                have m2 : 1 ≤ m := by omega
                have m3 : m ≤ (n : Int) := by omega
                have m4 : 0 ≤ m - 2 := by omega
                have m5 : m - 2 < (n : Int) := by omega
                have m6 : 2 ≤ m := by omega
                have hxx : (y :: x :: r).reverse[(m - 2).toNat]? = some x := by
                  have : (m - 2).toNat = r.length := by omega
                  rw [this]; simp [List.getElem?_append_left, List.getElem?_append_right]
                have hyy : (y :: x :: r).reverse[m.toNat - 1]? = some y := by
                  have : m.toNat - 1 = r.length + 1 := by omega
                  rw [this]; simp [List.getElem?_append_left, List.getElem?_append_right]
                have hd : wr.cell? ⟨g, (m - 2).toNat * 2, none⟩ = some (.int .u32 x.f0) ∧ wr.cell? ⟨g, (m - 2).toNat * 2 + 1, none⟩ = some (.int .i64 x.f1) := own_cell HR.out hxx rfl
                have hd' : wr.cell? ⟨g, (m.toNat - 1) * 2, none⟩ = some (.int .u32 y.f0) ∧ wr.cell? ⟨g, (m.toNat - 1) * 2 + 1, none⟩ = some (.int .i64 y.f1) := own_cell HR.out hyy rfl
                obtain ⟨d0, d1⟩ := hd
                obtain ⟨d2, d3⟩ := hd'
                have HXX := mkHid hxx
                have HL2 := mkHid hl2
                have HM := mkHid hm
                have HZ1 := mkHid hz1
                have HZ2 := mkHid hz2
                clear hxx hyy hl2 hm hz1 hz2 hZ hb hn1
                go_upto_region 9 with fail
                cases b with
                | false =>
                  go_region_held3 (fun w' => w'.cell? ⟨g, (m - 2).toNat * 2, none⟩ = some (.int .u32 x.f0) ∧ w'.cell? ⟨g, (m - 2).toNat * 2 + 1, none⟩ = some (.int .i64 x.f1) ∧ w'.cell? ⟨g, (m.toNat - 1) * 2, none⟩ = some (.int .u32 y.f0) ∧ w'.cell? ⟨g, (m.toNat - 1) * 2 + 1, none⟩ = some (.int .i64 y.f1)) (go_keep)
                    (first | (go_at_call 30; refine (sis_keep k x y false HSB.out g ((m - 2).toNat * 2) ((m.toNat - 1) * 2) _ ?_ ?_ ?_ ?_).mono ?_; (go_simp); (go_simp); (go_simp); (go_simp); rintro e w' ⟨rfl, ⟨k0, k1, k2, k3⟩, hb⟩))
                  all_goals
                    have HB3 : Hid (Below wr.heap.size wr w') := below_step (by repeat (first | exact Below.refl _ _ | apply pw_below_drewN | apply below_drew)) hb
                    clear hb d0 d1 d2 d3
                    have e1 : y :: x :: r = z1 := Option.some.inj HZ1.out
                    have HZ3 : Hid (addr_plain.go k (y :: x :: r) (l.drop (i.toNat + 1)) = some z) := by unfold Hid; rw [e1]; exact HZ2.out
                    clear e1
                    go_wp2_with fail
                    go_roundg (l.length - i.toNat - 1)
                    case measure => omega
                    case rel => exact ⟨i + 1, y :: x :: r, rfl, by omega, by omega, by unfold Hid; omega, by have := hn.out; unfold Hid; omega, by rw [show (i + 1).toNat = i.toNat + 1 by omega]; exact HZ3.out, Kd.R_below HR.out HB3.out, HB.out.trans (HB3.out.mono HB.out.size)⟩
                | true =>
                  have hnc : n ≤ c := (own_cells HR.out).choose_spec.2.2.2.1
                  have hcut := cut_to (P := Tryd.prog) 32 24 .i64 Tryd.underlying32 HI.out (some ⟨g, 0, none⟩) n c (m - 1) (by omega) (by omega) hnc
                  rw [show (m - 1).toNat = m.toNat - 1 by omega] at hcut
                  have m7 : m - 2 < ((m.toNat - 1 : Nat) : Int) := by omega
                  have hfz := fun o => own_frozen HR.out o
                  go_region_held3 (fun w' => w'.cell? ⟨g, (m - 2).toNat * 2, none⟩ = some (.int .u32 x.f0) ∧ w'.cell? ⟨g, (m - 2).toNat * 2 + 1, none⟩ = some (.int .i64 x.f1) ∧ w'.cell? ⟨g, (m.toNat - 1) * 2, none⟩ = some (.int .u32 y.f0) ∧ w'.cell? ⟨g, (m.toNat - 1) * 2 + 1, none⟩ = some (.int .i64 y.f1)) (go_keep)
                    (first | (go_at_call 30; refine (sis_keep k x y true HSB.out g ((m - 2).toNat * 2) ((m.toNat - 1) * 2) _ ?_ ?_ ?_ ?_).mono ?_; (go_simp); (go_simp); (go_simp); (go_simp); rintro e w' ⟨rfl, ⟨k0, k1, k2, k3⟩, hb⟩))
                  all_goals
                    have HB3 : Hid (Below wr.heap.size wr w') := below_step (by repeat (first | exact Below.refl _ _ | apply pw_below_drewN | apply below_drew)) hb
                    have HR3 := mkHid (Kd.R_below HR.out HB3.out)
                    have HBW := mkHid (HB.out.trans (HB3.out.mono HB.out.size))
                    have hfw : w'.frozen? ⟨g, (m - 2).toNat * 2 + 1, none⟩ = false := own_frozen HR3.out _
                    clear hb d0 d1 d2 d3 hfz k0 k2 k3
                    have e1 : addr_plain.up k r.length (⟨x.f0, wrap64 (x.f1 - 1)⟩ :: r) = some z1 := HZ1.out
                    have HZ3 : Hid ((addr_plain.up k ((⟨x.f0, wrap64 (x.f1 - 1)⟩ :: r : List S24).length - 1) (⟨x.f0, wrap64 (x.f1 - 1)⟩ :: r)).bind (fun z' => addr_plain.go k z' (l.drop (i.toNat + 1))) = some z) := by
                      unfold Hid
                      rw [show (⟨x.f0, wrap64 (x.f1 - 1)⟩ :: r : List S24).length - 1 = r.length from rfl, e1]
                      exact HZ2.out
                    have hm1 : m.toNat - 1 = r.length + 1 := by have := HM.out; have := HL2.out; omega
                    have hrr := own_take (m := m.toNat - 1) HR3.out (by have := HM.out; omega)
                    have hxr : ((y :: x :: r).reverse.take (m.toNat - 1))[(m - 2).toNat]? = some x := by
                      rw [List.getElem?_take_of_lt (by have := HM.out; have := HL2.out; omega)]; exact HXX.out
                    obtain ⟨hR5, hB5⟩ := own_bits hrr hxr (wrap64 (x.f1 - 1)) HBW.out
                    have hset : ((y :: x :: r).reverse.take (m.toNat - 1)).set (m - 2).toNat ⟨x.f0, wrap64 (x.f1 - 1)⟩ = (⟨x.f0, wrap64 (x.f1 - 1)⟩ :: r).reverse := by
                      have h1 : (y :: x :: r).reverse.take (m.toNat - 1) = r.reverse ++ [x] := by
                        rw [hm1, List.reverse_cons, List.reverse_cons, List.take_append_of_le_length (by simp), List.take_of_length_le (by simp)]
                      have h2 : (m - 2).toNat = r.reverse.length := by have := HM.out; have := HL2.out; rw [List.length_reverse]; omega
                      rw [h1, h2, List.set_append_right _ _ (Nat.le_refl _), Nat.sub_self, List.reverse_cons]; rfl
                    rw [hset] at hR5
                    have HR5 := mkHid hR5
                    have HB5 := mkHid hB5
                    have hm2 : m.toNat - 1 = (⟨x.f0, wrap64 (x.f1 - 1)⟩ :: r : List S24).length := hm1
                    have HM2 := mkHid hm2
                    have hm3 : ((m.toNat - 1 : Nat) : Int) ≤ i + 1 := by have := HM.out; omega
                    have hm4 : m.toNat - 1 ≤ gk - 1 := by have := HM.out; omega
                    clear e1 hrr hxr hR5 hB5 hset hm2 hm1
                    go_wp2_with fail
                    go_roundg (gk - 1)
                    case measure => omega
                    case rel => exact ⟨⟨x.f0, wrap64 (x.f1 - 1)⟩ :: r, some ⟨g, 0, none⟩, m.toNat - 1, c, ((m.toNat - 1 : Nat) : Int), rfl, rfl, rfl, hm3, hm4, HM2.out, HZ3.out, HR5.out, HB5.out⟩
              · have q2 : decide (m > 1) = false := decide_eq_false (by omega)
                have hz := HNO.out t _ HZ (by omega)
                have HZ2 := mkHid hz
                clear hz hn1 hm
                go_upto_region 9 with fail
                go_quiet (fail)
                go_wp2_with fail
                go_roundg (l.length - i.toNat - 1)
                case measure => omega
                case rel => exact ⟨i + 1, t, rfl, by omega, by omega, by unfold Hid; omega, by have := hn.out; unfold Hid; omega, by rw [show (i + 1).toNat = i.toNat + 1 by omega]; exact HZ2.out, Kd.R_drewN HR.out _, pw_below_drewN HB.out _⟩
      · have q1 : decide (i < (l.length : Int)) = false := decide_eq_false (by omega)
        have hall : l.drop i.toNat = [] := List.drop_eq_nil_of_le (by omega)
        have hz : s = z := by have := HZ.out; rw [hall] at this; cases s <;> exact Option.some.inj this
        subst hz
        go_wp2_with fail
        go_ret
        exact ⟨.slice A3 s.length c3, rfl, Kd.R_lower HR.out hw2, HB2.out.trans (HB.out.mono hw2)⟩
  · cases h

end Go.Proofs.YtckffheolnmcnabDoor.P

end
section
set_option linter.unusedVariables false
namespace Go.Proofs.YtckffheolnmcnabDoor
open Go.RowKit

def isDg (c : UInt8) : Bool := decide (48 ≤ c.toNat) && decide (c.toNat ≤ 57)
def numF (lim : Int) (n : Int) : List UInt8 → Int
  | [] => n
  | c :: l => numF lim (min (10 * n + ((c.toNat : Int) - 48)) lim) l
/-- the number of some digits, at most lim; false: they are none -/
def numL (lim : Int) (l : List UInt8) : Int × Bool :=
  if l = [] ∨ (1 < l.length ∧ l.head? = some 48) then (0, false) else if l.all isDg then (numF lim 0 l, true) else (0, false)
theorem numF_rng (lim : Int) (h0 : 0 ≤ lim) : ∀ (l : List UInt8) (n : Int), 0 ≤ n → n ≤ lim → l.all isDg = true → 0 ≤ numF lim n l ∧ numF lim n l ≤ lim := by
  intro l
  induction l with
  | nil => intro n h1 h2 _; exact ⟨h1, h2⟩
  | cons c l ih =>
    intro n h1 h2 h3
    rw [List.all_cons, Bool.and_eq_true] at h3
    have hc := h3.1
    unfold isDg at hc
    simp at hc
    exact ih _ (by omega) (by omega) h3.2
theorem head_byte (s : ByteArray) (h : 0 < s.size) : s.data.toList.head? = some (s[0]'h) := by
  have h' : 0 < s.data.size := h
  rw [List.head?_eq_getElem?, Array.getElem?_toList]
  exact Array.getElem?_eq_getElem h'
theorem head48f (s : ByteArray) (h : 0 < s.size) (hh : ¬ s.data.toList.head? = some 48) : (((s[0]'h).toNat : Int) == 48) = false := by
  rw [head_byte s h] at hh
  rw [beq_eq_false_iff_ne]
  intro e
  apply hh
  congr 1
  apply UInt8.toNat_inj.1
  show (s[0]'h).toNat = 48
  omega
theorem head48t (s : ByteArray) (h : 0 < s.size) (hh : s.data.toList.head? = some 48) : (((s[0]'h).toNat : Int) == 48) = true := by
  rw [head_byte s h] at hh
  rw [Option.some.inj hh]; rfl
theorem bytesWorld_below (w : World) (e : TypeId) (s : ByteArray) : Below w.heap.size w (Lib.bytesWorld w e s) :=
  ⟨rfl, rfl, rfl, by rw [Lib.bytesWorld_size]; omega, fun k hk => Lib.bytesWorld_at_old w e s k hk⟩
end Go.Proofs.YtckffheolnmcnabDoor

end
section
namespace Go.Proofs.YtckffheolnmcnabDoor.P
open Go.RowKit Go.Proofs.YtckffheolnmcnabDoorW.PrintWords Go.Proofs.YtckffheolnmcnabDoorW.PrintLast Go.Proofs.YtckffheolnmcnabDoorW.PrintMore
attribute [local go_sem] max2_int min2_int max_two min_two max_three min_three max_four min_four   -- for this text's walks alone
set_option linter.unusedVariables false
set_option linter.unusedSimpArgs false

attribute [local go_sem high] eqA24
def addr_Plain.f (k : Nat) (l0 : List (S24)) : Option ((List (S24)) × Int) := (addr_check.f k l0).bind fun t138 => (if t138 = 0 then ((addr_plain.f k l0).bind fun t139 => (some (t139, 0))) else (some (([] : List (S24)), t138)))
theorem addr_Plain.mono : ∀ a0 k, LeO (addr_Plain.f k a0) (addr_Plain.f (k + 1) a0) := by
  intro a0 k
  unfold addr_Plain.f
  repeat' first
      | (with_reducible exact addr_check.mono _ _)
      | (with_reducible exact addr_plain.mono _ _)
      | (with_reducible exact LeO.refl _)
      | (with_reducible exact LeO.none _)
      | (with_reducible refine LeO.ite ?_ ?_)
      | (with_reducible refine LeO.bind ?_ (fun _ => ?_))
      | exact addr_check.mono _ _
      | exact addr_plain.mono _ _
      | exact LeO.none _
      | refine LeO.ite ?_ ?_
      | refine LeO.bind ?_ (fun _ => ?_)
set_option maxHeartbeats 8000000 in
set_option maxRecDepth 100000 in
theorem addr_Plain.calls (k : Nat) (A0 : Option Addr) (c0 : Nat) (l0 : List (S24)) (r1 : List (S24)) (r2 : Int) (w : World) (hr0 : Kd.C k24 w A0 l0.length l0) (hc0 : l0.length ≤ c0) (h : addr_Plain.f k l0 = some (r1, r2)) :
    Calls Tryd.prog 8 #[.slice A0 l0.length c0] w fun e w' => ∃ v0_ : Value, e = .returned (.tuple #[v0_, .int .i64 r2]) ∧ Kd.R k24 24 w' w.heap.size (fun _ => True) v0_ r1 ∧ Below w.heap.size w w' := by
  have HR0 := Aside0.mk hr0
  have HC0 := Aside0.mk hc0
  clear hr0 hc0
  have HB := Aside0.mk (Below.refl w.heap.size w)
  have H : ((addr_check.f k l0).bind fun t138 => (if t138 = 0 then ((addr_plain.f k l0).bind fun t139 => (some (t139, 0))) else (some (([] : List (S24)), t138)))) = some (r1, r2) := h
  clear h
  replace H := Option.bind_eq_some_iff.mp H
  obtain ⟨t138, A20, H⟩ := H
  replace H : (if t138 = 0 then ((addr_plain.f k l0).bind fun t139 => (some (t139, 0))) else (some (([] : List (S24)), t138))) = some (r1, r2) := H
  have A2 := Aside0.mk A20
  clear A20
  by_cases c3 : t138 = 0
  · rw [if_pos c3] at H
    have c3b0 : (t138 == 0) = true := beq_iff_eq.mpr c3
    have c3b1 : (t138 != 0) = false := bne_eq_false_iff_eq.mpr c3
    clear c3
    replace H := Option.bind_eq_some_iff.mp H
    obtain ⟨t139, A40, H⟩ := H
    replace H : (some (t139, 0)) = some (r1, r2) := H
    have A4 := Aside0.mk A40
    clear A40
    simp only [Option.some.injEq, Prod.mk.injEq] at H
    obtain ⟨rfl, rfl⟩ := H
    go_enter Tryd.func8, Tryd.ntmps8
    go_wp2_with (first | ((with_reducible refine gate_callee (f := 16) rfl ?_); refine goesL_ (some 6) rfl rfl Tryd.func16 (by kernel_rfl) rfl #[.slice A0 l0.length c0] rfl (by (try simp only [List.map_toArray, List.map_cons, List.map_nil]); first | done | rfl | (simp only [List.length_drop, List.length_take]; rfl)) ?_; (with_reducible refine (addr_check.calls k _ _ l0 t138 _ ?side1 ?side2 A2.out).mono ?_); (case side1 => repeat (first | exact HR0.out | (with_reducible refine Kd.C_alloc ?_ _) | (with_reducible refine Kd.C_drewN ?_ _) | (with_reducible refine Kd.C_drew ?_))); (case side2 => exact HC0.out); rintro e w5 ⟨rfl, hb⟩; refine ⟨_, rfl, ?_⟩; have n0_ := Aside0.mk (below_step (by repeat (first | (with_reducible first | exact HB.out | apply below_alloc | apply pw_below_drewN | apply below_drew1) | exact HB.out)) hb); clear HB; have HB := n0_; clear n0_; (try clear hb); (try clear hb2); (try clear hk); (try clear hi)) | ((with_reducible refine gate_callee (f := 17) rfl ?_); refine goesL_ (some 11) rfl rfl Tryd.func17 (by kernel_rfl) rfl #[.slice A0 l0.length c0] rfl (by (try simp only [List.map_toArray, List.map_cons, List.map_nil]); first | done | rfl | (simp only [List.length_drop, List.length_take]; rfl)) ?_; (with_reducible refine (addr_plain.calls k _ _ l0 t139 _ ?side1 ?side2 A4.out).mono ?_); (case side1 => repeat (first | exact (Kd.C_below HR0.out HB.out) | (with_reducible refine Kd.C_alloc ?_ _) | (with_reducible refine Kd.C_drewN ?_ _) | (with_reducible refine Kd.C_drew ?_))); (case side2 => exact HC0.out); rintro e w6 ⟨v140, rfl, ho0, hb⟩; refine ⟨_, rfl, ?_⟩; have n0_ := Aside0.mk (Kd.R_lower ho0 (below_size (by repeat (first | (with_reducible first | exact HB.out | apply below_alloc | apply pw_below_drewN | apply below_drew1) | exact HB.out)))); have n1_ := Aside0.mk (below_step (by repeat (first | (with_reducible first | exact HB.out | apply below_alloc | apply pw_below_drewN | apply below_drew1) | exact HB.out)) hb); clear HB; have HO141 := n0_; have HB := n1_; clear n0_ n1_; (try clear hb); (try clear hb2); (try clear hk); (try clear hi); (try clear ho0)))
    go_ret2
    exact ⟨_, by first | rfl | (simp [errW_none, errW_some] <;> rfl) | (simp [*, errW_none, errW_some] <;> rfl), by (with_reducible repeat (first | apply Kd.R_alloc | apply Kd.R_drewN | apply Kd.R_drew)); exact HO141.out, by repeat (first | (with_reducible first | exact HB.out | apply below_alloc | apply pw_below_drewN | apply below_drew1) | exact HB.out)⟩
  · rw [if_neg c3] at H
    have c3b0 : (t138 == 0) = false := beq_eq_false_iff_ne.mpr c3
    have c3b1 : (t138 != 0) = true := bne_iff_ne.mpr c3
    simp only [Option.some.injEq, Prod.mk.injEq] at H
    obtain ⟨rfl, rfl⟩ := H
    go_enter Tryd.func8, Tryd.ntmps8
    go_wp2_with (first | ((with_reducible refine gate_callee (f := 16) rfl ?_); refine goesL_ (some 6) rfl rfl Tryd.func16 (by kernel_rfl) rfl #[.slice A0 l0.length c0] rfl (by (try simp only [List.map_toArray, List.map_cons, List.map_nil]); first | done | rfl | (simp only [List.length_drop, List.length_take]; rfl)) ?_; (with_reducible refine (addr_check.calls k _ _ l0 t138 _ ?side1 ?side2 A2.out).mono ?_); (case side1 => repeat (first | exact HR0.out | (with_reducible refine Kd.C_alloc ?_ _) | (with_reducible refine Kd.C_drewN ?_ _) | (with_reducible refine Kd.C_drew ?_))); (case side2 => exact HC0.out); rintro e w7 ⟨rfl, hb⟩; refine ⟨_, rfl, ?_⟩; have n0_ := Aside0.mk (below_step (by repeat (first | (with_reducible first | exact HB.out | apply below_alloc | apply pw_below_drewN | apply below_drew1) | exact HB.out)) hb); clear HB; have HB := n0_; clear n0_; (try clear hb); (try clear hb2); (try clear hk); (try clear hi)))
    go_ret2
    exact ⟨_, by first | rfl | (simp [errW_none, errW_some] <;> rfl) | (simp [*, errW_none, errW_some] <;> rfl), by first | exact Kd.R_nil _ _ _ _ _ | exact Kd.N_nil _ _ _ _ _ | exact Kd.V_nil _ _ _ _ _ | exact Kd.Q_nil _ _ _ _ _ | exact Kd.S_nil _ _ _ _ _, by repeat (first | (with_reducible first | exact HB.out | apply below_alloc | apply pw_below_drewN | apply below_drew1) | exact HB.out)⟩

def whirligigref01_Same.l0 : Nat → List (S24) → List (S24) → Int → Option (Bool)
  | 0, _, _, _ => none
  | k + 1, x0, x1, x5 => if x5 < (x0.length : Int) then (if 0 ≤ x5 then (if x5 < (x1.length : Int) then (if (!(((rd_T24 x0 x5).f0) == ((rd_T24 x1 x5).f0)) || (!(((rd_T24 x0 x5).f1) == ((rd_T24 x1 x5).f1)))) = true then (some false) else (whirligigref01_Same.l0 k x0 x1 (wrap64 (x5 + 1)))) else (none)) else (none)) else (some true)
def whirligigref01_Same.f (k : Nat) (l0 : List (S24)) (l1 : List (S24)) : Option (Bool) := if (l0.length : Int) = (l1.length : Int) then (whirligigref01_Same.l0 k l0 l1 0) else (some false)
theorem whirligigref01_Same.mono_l : ∀ k, (∀ y0 y1 y2, LeO (whirligigref01_Same.l0 k y0 y1 y2) (whirligigref01_Same.l0 (k + 1) y0 y1 y2))
  | 0 => fun _ _ _ r h => by simp [whirligigref01_Same.l0] at h
  | k + 1 => by
    have ih0 := whirligigref01_Same.mono_l k
    · intro y0 y1 y2
      unfold whirligigref01_Same.l0
      repeat' first
      | (with_reducible exact ih0 _ _ _)
      | (with_reducible exact LeO.refl _)
      | (with_reducible exact LeO.none _)
      | (with_reducible refine LeO.ite ?_ ?_)
      | (with_reducible refine LeO.bind ?_ (fun _ => ?_))
      | exact ih0 _ _ _
      | exact LeO.none _
      | refine LeO.ite ?_ ?_
      | refine LeO.bind ?_ (fun _ => ?_)
theorem whirligigref01_Same.mono : ∀ a0 a1 k, LeO (whirligigref01_Same.f k a0 a1) (whirligigref01_Same.f (k + 1) a0 a1) := by
  intro a0 a1 k
  have ih0 := whirligigref01_Same.mono_l k
  unfold whirligigref01_Same.f
  repeat' first
      | (with_reducible exact ih0 _ _ _)
      | (with_reducible exact LeO.refl _)
      | (with_reducible exact LeO.none _)
      | (with_reducible refine LeO.ite ?_ ?_)
      | (with_reducible refine LeO.bind ?_ (fun _ => ?_))
      | exact ih0 _ _ _
      | exact LeO.none _
      | refine LeO.ite ?_ ?_
      | refine LeO.bind ?_ (fun _ => ?_)
set_option maxHeartbeats 8000000 in
set_option maxRecDepth 100000 in
theorem whirligigref01_Same.calls (k : Nat) (A0 : Option Addr) (c0 : Nat) (l0 : List (S24)) (A1 : Option Addr) (c1 : Nat) (l1 : List (S24)) (r : Bool) (w : World) (hr0 : Kd.C k24 w A0 l0.length l0) (hc0 : l0.length ≤ c0) (hr1 : Kd.C k24 w A1 l1.length l1) (hc1 : l1.length ≤ c1) (h : whirligigref01_Same.f k l0 l1 = some r) :
    Calls Tryd.prog 9 #[.slice A0 l0.length c0, .slice A1 l1.length c1] w fun e w' => e = .returned (.bool r) ∧ Drawn0 w w' := by
  have hu24 := Tryd.underlying24
  have HR0 := Aside0.mk hr0
  have HC0 := Aside0.mk hc0
  clear hr0 hc0
  have HR1 := Aside0.mk hr1
  have HC1 := Aside0.mk hc1
  clear hr1 hc1
  have H : (if (l0.length : Int) = (l1.length : Int) then (whirligigref01_Same.l0 k l0 l1 0) else (some false)) = some r := h
  clear h
  by_cases c3 : (l0.length : Int) = (l1.length : Int)
  · rw [if_pos c3] at H
    have c3b0 : ((l0.length : Int) == (l1.length : Int)) = true := beq_iff_eq.mpr c3
    have c3b1 : ((l0.length : Int) != (l1.length : Int)) = false := bne_eq_false_iff_eq.mpr c3
    have c3b2 : (l0.length == l1.length) = true := by first | simpa using c3 | (simp at c3 ⊢; omega)
    clear c3
    have H' := Aside0.mk H
    clear H
    go_enter Tryd.func9, Tryd.ntmps9
    go_wp2
    repeat (go_quiet (fail); try go_wp2)
    go_loopg [5] k (fun kq v5 w' => ∃ (x5_1 : Int), v5 = .int .i64 x5_1 ∧ Aside0 (whirligigref01_Same.l0 kq l0 l1 x5_1 = some r) ∧ Aside0 (kq ≤ k) ∧ Drawn0 w w')
    case atStart => exact ⟨(0), (by first | rfl | (simp; done) | (simp [*]; done)), H', ⟨Nat.le_refl _⟩, by repeat (first | exact Drawn0.refl _ | apply Drawn0.step)⟩
    case round =>
      clear H'
      try clear c1
      try clear p2
      try clear c3
      try clear c3b0
      try clear c3b1
      try clear c3b2
      obtain ⟨x5_1, rfl, HA, HK1, ⟨m1, rfl⟩⟩ := hrel
      cases gk with
      | zero => exact absurd HA.out (by simp [whirligigref01_Same.l0])
      | succ k1 =>
        have H := HA.out
        clear HA
        simp only [whirligigref01_Same.l0] at H
        by_cases c4 : x5_1 < (l0.length : Int)
        · rw [if_pos c4] at H
          have c4b0 : decide (x5_1 < (l0.length : Int)) = true := decide_eq_true c4
          clear c4
          by_cases c5 : 0 ≤ x5_1
          · rw [if_pos c5] at H
            have c5b0 : decide (0 ≤ x5_1) = true := decide_eq_true c5
            clear c5
            by_cases c6 : x5_1 < (l1.length : Int)
            · rw [if_pos c6] at H
              have c6b0 : decide (x5_1 < (l1.length : Int)) = true := decide_eq_true c6
              clear c6
              by_cases c7 : (!(((rd_T24 l0 x5_1).f0) == ((rd_T24 l1 x5_1).f0)) || (!(((rd_T24 l0 x5_1).f1) == ((rd_T24 l1 x5_1).f1)))) = true
              · rw [if_pos c7] at H
                have c7b0 : (!(((rd_T24 l0 x5_1).f0) == ((rd_T24 l1 x5_1).f0)) || (!(((rd_T24 l0 x5_1).f1) == ((rd_T24 l1 x5_1).f1)))) = true := c7
                clear c7
                obtain rfl := Option.some.inj H
                have p142 : 0 ≤ (x5_1 : Int) := of_decide_eq_true (by first | (with_reducible assumption) | assumption)
                have q142 : x5_1 < (l0.length : Int) := of_decide_eq_true (by first | (with_reducible assumption) | assumption)
                obtain ⟨ad142, e142, hx142_0, hx142_1⟩ := at_T24 HR0.out x5_1 p142 q142
                cases e142
                replace p142 := eq_true p142
                replace q142 := eq_true q142
                have p143 : 0 ≤ (x5_1 : Int) := of_decide_eq_true (by first | (with_reducible assumption) | assumption)
                have q143 : x5_1 < (l1.length : Int) := of_decide_eq_true (by first | (with_reducible assumption) | assumption)
                obtain ⟨ad143, e143, hx143_0, hx143_1⟩ := at_T24 HR1.out x5_1 p143 q143
                cases e143
                replace p143 := eq_true p143
                replace q143 := eq_true q143
                go_wp2
                repeat (go_quiet (fail); try go_wp2)
                go_ret
                exact ⟨by first | rfl | (simp; done) | (simp [*]; done), by repeat (first | exact Drawn0.refl _ | apply Drawn0.step)⟩
              · rw [if_neg c7] at H
                have c7b0 : (!(((rd_T24 l0 x5_1).f0) == ((rd_T24 l1 x5_1).f0)) || (!(((rd_T24 l0 x5_1).f1) == ((rd_T24 l1 x5_1).f1)))) = false := by simpa using c7
                clear c7
                have H' := Aside0.mk H
                clear H
                have p142 : 0 ≤ (x5_1 : Int) := of_decide_eq_true (by first | (with_reducible assumption) | assumption)
                have q142 : x5_1 < (l0.length : Int) := of_decide_eq_true (by first | (with_reducible assumption) | assumption)
                obtain ⟨ad142, e142, hx142_0, hx142_1⟩ := at_T24 HR0.out x5_1 p142 q142
                cases e142
                replace p142 := eq_true p142
                replace q142 := eq_true q142
                have p143 : 0 ≤ (x5_1 : Int) := of_decide_eq_true (by first | (with_reducible assumption) | assumption)
                have q143 : x5_1 < (l1.length : Int) := of_decide_eq_true (by first | (with_reducible assumption) | assumption)
                obtain ⟨ad143, e143, hx143_0, hx143_1⟩ := at_T24 HR1.out x5_1 p143 q143
                cases e143
                replace p143 := eq_true p143
                replace q143 := eq_true q143
                go_wp2
                repeat (go_quiet (fail); try go_wp2)
                go_roundg k1
                case measure => have := HK1.out; omega
                case rel => exact ⟨(wrap64 (x5_1 + 1)), (by first | rfl | (simp; done) | (simp [*]; done)), H', ⟨by have := HK1.out; omega⟩, by repeat (first | exact Drawn0.refl _ | apply Drawn0.step)⟩
            · rw [if_neg c6] at H
              exact absurd H (by simp)
          · rw [if_neg c5] at H
            exact absurd H (by simp)
        · rw [if_neg c4] at H
          have c4b0 : decide (x5_1 < (l0.length : Int)) = false := decide_eq_false c4
          clear c4
          obtain rfl := Option.some.inj H
          go_wp2
          repeat (go_quiet (fail); try go_wp2)
          go_ret
          exact ⟨by first | rfl | (simp; done) | (simp [*]; done), by repeat (first | exact Drawn0.refl _ | apply Drawn0.step)⟩
  · rw [if_neg c3] at H
    have c3b0 : ((l0.length : Int) == (l1.length : Int)) = false := beq_eq_false_iff_ne.mpr c3
    have c3b1 : ((l0.length : Int) != (l1.length : Int)) = true := bne_iff_ne.mpr c3
    have c3b2 : (l0.length == l1.length) = false := by first | simpa using c3 | (simp at c3 ⊢; omega)
    obtain rfl := Option.some.inj H
    go_enter Tryd.func9, Tryd.ntmps9
    go_wp2
    repeat (go_quiet (fail); try go_wp2)
    go_ret
    exact ⟨by first | rfl | (simp; done) | (simp [*]; done), by repeat (first | exact Drawn0.refl _ | apply Drawn0.step)⟩

def whirligiglaw01_lives.f (k : Nat)  : Option (Bool) := (addr_Plain.f k (([(⟨167772160, 9⟩ : S24), (⟨176160768, 9⟩ : S24)] : List (S24)))).bind fun bt147 => ((addr_Text.f k 167772160 8).bind fun t151 => (if t151.toList = ([49, 48, 46, 48, 46, 48, 46, 48, 47, 56] : List UInt8) then (if bt147.2 = 0 then ((whirligigref01_Same.f k bt147.1 (([(⟨167772160, 8⟩ : S24)] : List (S24)))).bind fun t155 => (some t155)) else (some false)) else (some false)))
theorem whirligiglaw01_lives.mono : ∀ k, LeO (whirligiglaw01_lives.f k ) (whirligiglaw01_lives.f (k + 1) ) := by
  intro  k
  unfold whirligiglaw01_lives.f
  repeat' first
      | (with_reducible exact addr_Plain.mono _ _)
      | (with_reducible exact addr_Text.mono _ _ _)
      | (with_reducible exact whirligigref01_Same.mono _ _ _)
      | (with_reducible exact LeO.refl _)
      | (with_reducible exact LeO.none _)
      | (with_reducible refine LeO.ite ?_ ?_)
      | (with_reducible refine LeO.bind ?_ (fun _ => ?_))
      | exact addr_Plain.mono _ _
      | exact addr_Text.mono _ _ _
      | exact whirligigref01_Same.mono _ _ _
      | exact LeO.none _
      | refine LeO.ite ?_ ?_
      | refine LeO.bind ?_ (fun _ => ?_)
set_option maxHeartbeats 8000000 in
set_option maxRecDepth 100000 in
theorem whirligiglaw01_lives.calls (k : Nat)  (r : Bool) (w : World) (h : whirligiglaw01_lives.f k  = some r) :
  Calls Tryd.prog 4 #[] w fun e w' => e = .returned (.bool r) ∧ Below w.heap.size w w' := by
 have hu24 := Tryd.underlying24
 have HB := Aside0.mk (Below.refl w.heap.size w)
 have H := h
 unfold whirligiglaw01_lives.f at H
 clear h
 obtain ⟨y144, hy144⟩ : ∃ y_ : List (S24), y_ = (([(⟨167772160, 9⟩ : S24), (⟨176160768, 9⟩ : S24)] : List (S24))) := ⟨_, rfl⟩
 replace H : ((addr_Plain.f k y144).bind fun bt147 => ((addr_Text.f k 167772160 8).bind fun t151 => (if t151.toList = ([49, 48, 46, 48, 46, 48, 46, 48, 47, 56] : List UInt8) then (if bt147.2 = 0 then ((whirligigref01_Same.f k bt147.1 (([(⟨167772160, 8⟩ : S24)] : List (S24)))).bind fun t155 => (some t155)) else (some false)) else (some false)))) = some r := by first | (rw [hy144]; with_reducible exact H) | (have H2_ := (Option.bind_some _ _).symm.trans H; rw [hy144]; with_reducible exact H2_) | (have H2_ := (Option.bind_some _ _).symm.trans H; with_reducible exact H2_) | with_reducible exact H | (rw [hy144]; exact H) | exact H
 have Ny144 := Aside0.mk hy144
 clear hy144
 replace H := Option.bind_eq_some_iff.mp H
 obtain ⟨⟨t147, t148⟩, A10, H⟩ := H
 (try dsimp only at H)
 have A1 := Aside0.mk A10
 clear A10
 replace H := Option.bind_eq_some_iff.mp H
 obtain ⟨t151, A20, H⟩ := H
 (try dsimp only at H)
 have A2 := Aside0.mk A20
 clear A20
 by_cases c3 : t151.toList = ([49, 48, 46, 48, 46, 48, 46, 48, 47, 56] : List UInt8)
 ·rw [if_pos c3] at H
  have c3b0 : (t151.toList == ([49, 48, 46, 48, 46, 48, 46, 48, 47, 56] : List UInt8)) = true := beq_iff_eq.mpr c3
  have c3b1 : (t151.toList != ([49, 48, 46, 48, 46, 48, 46, 48, 47, 56] : List UInt8)) = false := bne_eq_false_iff_eq.mpr c3
  clear c3
  by_cases c4 : t148 = 0
  ·rw [if_pos c4] at H
   have c4b0 : (t148 == 0) = true := beq_iff_eq.mpr c4
   have c4b1 : (t148 != 0) = false := bne_eq_false_iff_eq.mpr c4
   clear c4
   obtain ⟨y152, hy152⟩ : ∃ y_ : List (S24), y_ = (([(⟨167772160, 8⟩ : S24)] : List (S24))) := ⟨_, rfl⟩
   replace H : ((whirligigref01_Same.f k t147 y152).bind fun t155 => (some t155)) = some r := by first | (rw [hy152]; with_reducible exact H) | (have H2_ := (Option.bind_some _ _).symm.trans H; rw [hy152]; with_reducible exact H2_) | (have H2_ := (Option.bind_some _ _).symm.trans H; with_reducible exact H2_) | with_reducible exact H | (rw [hy152]; exact H) | exact H
   have Ny152 := Aside0.mk hy152
   clear hy152
   replace H := Option.bind_eq_some_iff.mp H
   obtain ⟨t155, A50, H⟩ := H
   replace H : (some t155) = some r := H
   have A5 := Aside0.mk A50
   clear A50
   obtain rfl := Option.some.inj H
   go_enter Tryd.func4, Tryd.ntmps4
   go_wp2_with (first | ((with_reducible refine gate_dst (N := 6) rfl ?_); (try (refine gate_guard (by rfl) ?_; dsimp only)); refine Kd.R_lit k24 _ 24 ?hg (N := 6) ?hd (xs := ([(⟨167772160, 9⟩ : S24), (⟨176160768, 9⟩ : S24)] : List (S24))) (inner := [.int .u32 167772160, .int .i64 9, .int .u32 176160768, .int .i64 9]) (ok := fun _ => True) (okp := fun _ => True) ?hr ?hp (fun _ hk => hk) trivial (Below.refl _ _) (Nat.le_refl _) (by simp) ?_; (case hd => rfl); (case hg => rfl); (case hr => first | (go_simp; done) | (go_simp; rfl)); (case hp => exact (Reps.c2 (show Kd.M k24 _ _ _ (⟨167772160, 9⟩ : S24) [.int .u32 167772160, .int .i64 9] from (k24_mkM _ _ _ (⟨167772160, 9⟩ : S24) )) (Reps.c2 (show Kd.M k24 _ _ _ (⟨176160768, 9⟩ : S24) [.int .u32 176160768, .int .i64 9] from (k24_mkM _ _ _ (⟨176160768, 9⟩ : S24) )) (Reps.none _ _)))); intro v145 w6 ho7 hb hg_ hnew_; clear hg_ hnew_; (first | rw [← Ny144.out] at ho7 | (simp only [Int.reduceToNat] at ho7; rw [← Ny144.out] at ho7)); have aa := Aside0.mk (Kd.R_lower ho7 (below_size (by repeat (first | (with_reducible first | exact HB.out | apply below_alloc | apply pw_below_drewN | apply below_drew1) | exact HB.out)))); replace HB := Aside0.mk (below_step (by repeat (first | (with_reducible first | exact HB.out | apply below_alloc | apply pw_below_drewN | apply below_drew1) | exact HB.out)) hb); clear hb ho7; obtain ⟨Ao8, co8, eo8⟩ := Kd.R_slice aa.out; subst eo8) | ((with_reducible refine gate_callee (f := 8) rfl ?_); refine goesL_ (some 7) rfl rfl Tryd.func8 (by kernel_rfl) rfl #[.slice Ao8 y144.length co8] rfl (by (try simp only [List.map_toArray, List.map_cons, List.map_nil]); first | done | rfl) ?_; (with_reducible refine (addr_Plain.calls k _ _ y144 t147 t148 _ ?side1 ?side2 A1.out).mono ?_); (case side1 => repeat (first | exact (Kd.R_reads' aa.out).2.2 | (with_reducible refine Kd.C_alloc ?_ _) | (with_reducible refine Kd.C_drewN ?_ _) | (with_reducible refine Kd.C_drew ?_))); (case side2 => exact (Kd.R_reads' aa.out).2.1); rintro e w9 ⟨v149, rfl, ho0, hb⟩; refine ⟨_, rfl, ?_⟩; have n0_ := Aside0.mk (Kd.R_elder' (by (with_reducible repeat (first | apply Kd.R_alloc | apply Kd.R_drewN | apply Kd.R_drew)); exact aa.out) (Kd.R_base ho0) hb); have n1_ := Aside0.mk (Kd.R_lower (Kd.R_new' ho0 (Kd.R_lt (by (with_reducible repeat (first | apply Kd.R_alloc | apply Kd.R_drewN | apply Kd.R_drew)); exact aa.out))) (below_size (by repeat (first | (with_reducible first | exact HB.out | apply below_alloc | apply pw_below_drewN | apply below_drew1) | exact HB.out)))); have n2_ := Aside0.mk (below_step (by repeat (first | (with_reducible first | exact HB.out | apply below_alloc | apply pw_below_drewN | apply below_drew1) | exact HB.out)) hb); clear aa; clear HB; have aa := n0_; have ab := n1_; have HB := n2_; clear n0_ n1_ n2_; (try clear hb); (try clear hb2); (try clear hk); (try clear hi); (try clear ho0)) | ((with_reducible refine gate_callee (f := 6) rfl ?_); refine goesL_ (some 11) rfl rfl Tryd.func6 (by kernel_rfl) rfl #[.agg #[.int .u32 167772160, .int .i64 8]] rfl (by (try simp only [List.map_toArray, List.map_cons, List.map_nil]); first | done | rfl) ?_; (with_reducible refine (addr_Text.calls k 167772160 8 t151 _ A2.out).mono ?_); rintro e w10 ⟨rfl, hb⟩; refine ⟨_, rfl, ?_⟩; replace aa := Aside0.mk (Kd.R_below (by (with_reducible repeat (first | apply Kd.R_alloc | apply Kd.R_drewN | apply Kd.R_drew)); exact aa.out) hb); replace ab := Aside0.mk (Kd.R_below (by (with_reducible repeat (first | apply Kd.R_alloc | apply Kd.R_drewN | apply Kd.R_drew)); exact ab.out) hb); replace HB := Aside0.mk (below_step (by repeat (first | (with_reducible first | exact HB.out | apply below_alloc | apply pw_below_drewN | apply below_drew1) | exact HB.out)) hb); (try clear hb); (try clear hb2); (try clear hk); (try clear hi)) | ((with_reducible refine gate_dst (N := 20) rfl ?_); (try (refine gate_guard (by rfl) ?_; dsimp only)); refine Kd.R_lit k24 _ 24 ?hg (N := 20) ?hd (xs := ([(⟨167772160, 8⟩ : S24)] : List (S24))) (inner := [.int .u32 167772160, .int .i64 8]) (ok := fun _ => True) (okp := fun _ => True) ?hr ?hp (fun _ hk => hk) trivial (Below.refl _ _) (Nat.le_refl _) (by simp) ?_; (case hd => rfl); (case hg => rfl); (case hr => first | (go_simp; done) | (go_simp; rfl)); (case hp => exact (Reps.c2 (show Kd.M k24 _ _ _ (⟨167772160, 8⟩ : S24) [.int .u32 167772160, .int .i64 8] from (k24_mkM _ _ _ (⟨167772160, 8⟩ : S24) )) (Reps.none _ _))); intro v153 w11 ho12 hb hg_ hnew_; clear hg_ hnew_; (first | rw [← Ny152.out] at ho12 | (simp only [Int.reduceToNat] at ho12; rw [← Ny152.out] at ho12)); have n0_ := Aside0.mk (Kd.R_elder' (by (with_reducible repeat (first | apply Kd.R_alloc | apply Kd.R_drewN | apply Kd.R_drew)); exact aa.out) (Kd.R_base ho12) hb); have n1_ := Aside0.mk (Kd.R_elder' (by (with_reducible repeat (first | apply Kd.R_alloc | apply Kd.R_drewN | apply Kd.R_drew)); exact ab.out) (Kd.R_base ho12) hb); have n2_ := Aside0.mk (Kd.R_lower (Kd.R_new' (Kd.R_new' ho12 (Kd.R_lt (by (with_reducible repeat (first | apply Kd.R_alloc | apply Kd.R_drewN | apply Kd.R_drew)); exact aa.out))) (Kd.R_lt (by (with_reducible repeat (first | apply Kd.R_alloc | apply Kd.R_drewN | apply Kd.R_drew)); exact ab.out))) (below_size (by repeat (first | (with_reducible first | exact HB.out | apply below_alloc | apply pw_below_drewN | apply below_drew1) | exact HB.out)))); have n3_ := Aside0.mk (below_step (by repeat (first | (with_reducible first | exact HB.out | apply below_alloc | apply pw_below_drewN | apply below_drew1) | exact HB.out)) hb); clear aa; clear ab; clear HB; have aa := n0_; have ab := n1_; have HO154 := n2_; have HB := n3_; clear n0_ n1_ n2_ n3_; clear hb ho12; obtain ⟨Ao13, co13, eo13⟩ := Kd.R_slice ab.out; subst eo13; obtain ⟨Ao14, co14, eo14⟩ := Kd.R_slice HO154.out; subst eo14) | (go_at_call 9; (with_reducible refine (whirligigref01_Same.calls k _ _ t147 _ _ y152 t155 _ ?side1 ?side2 ?side3 ?side4 A5.out).mono ?_); (case side1 | side3 => repeat (first | exact (Kd.R_reads' ab.out).2.2 | exact (Kd.R_reads' HO154.out).2.2 | (with_reducible refine Kd.C_alloc ?_ _) | (with_reducible refine Kd.C_drewN ?_ _) | (with_reducible refine Kd.C_drew ?_))); (case side2 | side4 => first | exact (Kd.R_reads' ab.out).2.1 | exact (Kd.R_reads' HO154.out).2.1); rintro e w' ⟨rfl, ⟨nd, rfl⟩⟩))
   go_ret
   exact ⟨by first | rfl | (simp [errW_none, errW_some] <;> rfl) | (simp [*, errW_none, errW_some] <;> rfl), by repeat (first | (with_reducible first | exact HB.out | apply below_alloc | apply pw_below_drewN | apply below_drew1) | exact HB.out)⟩
  ·rw [if_neg c4] at H
   have c4b0 : (t148 == 0) = false := beq_eq_false_iff_ne.mpr c4
   have c4b1 : (t148 != 0) = true := bne_iff_ne.mpr c4
   obtain rfl := Option.some.inj H
   go_enter Tryd.func4, Tryd.ntmps4
   go_wp2_with (first | ((with_reducible refine gate_dst (N := 6) rfl ?_); (try (refine gate_guard (by rfl) ?_; dsimp only)); refine Kd.R_lit k24 _ 24 ?hg (N := 6) ?hd (xs := ([(⟨167772160, 9⟩ : S24), (⟨176160768, 9⟩ : S24)] : List (S24))) (inner := [.int .u32 167772160, .int .i64 9, .int .u32 176160768, .int .i64 9]) (ok := fun _ => True) (okp := fun _ => True) ?hr ?hp (fun _ hk => hk) trivial (Below.refl _ _) (Nat.le_refl _) (by simp) ?_; (case hd => rfl); (case hg => rfl); (case hr => first | (go_simp; done) | (go_simp; rfl)); (case hp => exact (Reps.c2 (show Kd.M k24 _ _ _ (⟨167772160, 9⟩ : S24) [.int .u32 167772160, .int .i64 9] from (k24_mkM _ _ _ (⟨167772160, 9⟩ : S24) )) (Reps.c2 (show Kd.M k24 _ _ _ (⟨176160768, 9⟩ : S24) [.int .u32 176160768, .int .i64 9] from (k24_mkM _ _ _ (⟨176160768, 9⟩ : S24) )) (Reps.none _ _)))); intro v145 w15 ho16 hb hg_ hnew_; clear hg_ hnew_; (first | rw [← Ny144.out] at ho16 | (simp only [Int.reduceToNat] at ho16; rw [← Ny144.out] at ho16)); have aa := Aside0.mk (Kd.R_lower ho16 (below_size (by repeat (first | (with_reducible first | exact HB.out | apply below_alloc | apply pw_below_drewN | apply below_drew1) | exact HB.out)))); replace HB := Aside0.mk (below_step (by repeat (first | (with_reducible first | exact HB.out | apply below_alloc | apply pw_below_drewN | apply below_drew1) | exact HB.out)) hb); clear hb ho16; obtain ⟨Ao17, co17, eo17⟩ := Kd.R_slice aa.out; subst eo17) | ((with_reducible refine gate_callee (f := 8) rfl ?_); refine goesL_ (some 7) rfl rfl Tryd.func8 (by kernel_rfl) rfl #[.slice Ao17 y144.length co17] rfl (by (try simp only [List.map_toArray, List.map_cons, List.map_nil]); first | done | rfl) ?_; (with_reducible refine (addr_Plain.calls k _ _ y144 t147 t148 _ ?side1 ?side2 A1.out).mono ?_); (case side1 => repeat (first | exact (Kd.R_reads' aa.out).2.2 | (with_reducible refine Kd.C_alloc ?_ _) | (with_reducible refine Kd.C_drewN ?_ _) | (with_reducible refine Kd.C_drew ?_))); (case side2 => exact (Kd.R_reads' aa.out).2.1); rintro e w18 ⟨v149, rfl, ho0, hb⟩; refine ⟨_, rfl, ?_⟩; have n0_ := Aside0.mk (Kd.R_elder' (by (with_reducible repeat (first | apply Kd.R_alloc | apply Kd.R_drewN | apply Kd.R_drew)); exact aa.out) (Kd.R_base ho0) hb); have n1_ := Aside0.mk (Kd.R_lower (Kd.R_new' ho0 (Kd.R_lt (by (with_reducible repeat (first | apply Kd.R_alloc | apply Kd.R_drewN | apply Kd.R_drew)); exact aa.out))) (below_size (by repeat (first | (with_reducible first | exact HB.out | apply below_alloc | apply pw_below_drewN | apply below_drew1) | exact HB.out)))); have n2_ := Aside0.mk (below_step (by repeat (first | (with_reducible first | exact HB.out | apply below_alloc | apply pw_below_drewN | apply below_drew1) | exact HB.out)) hb); clear aa; clear HB; have aa := n0_; have ab := n1_; have HB := n2_; clear n0_ n1_ n2_; (try clear hb); (try clear hb2); (try clear hk); (try clear hi); (try clear ho0)) | ((with_reducible refine gate_callee (f := 6) rfl ?_); refine goesL_ (some 11) rfl rfl Tryd.func6 (by kernel_rfl) rfl #[.agg #[.int .u32 167772160, .int .i64 8]] rfl (by (try simp only [List.map_toArray, List.map_cons, List.map_nil]); first | done | rfl) ?_; (with_reducible refine (addr_Text.calls k 167772160 8 t151 _ A2.out).mono ?_); rintro e w19 ⟨rfl, hb⟩; refine ⟨_, rfl, ?_⟩; replace aa := Aside0.mk (Kd.R_below (by (with_reducible repeat (first | apply Kd.R_alloc | apply Kd.R_drewN | apply Kd.R_drew)); exact aa.out) hb); replace ab := Aside0.mk (Kd.R_below (by (with_reducible repeat (first | apply Kd.R_alloc | apply Kd.R_drewN | apply Kd.R_drew)); exact ab.out) hb); replace HB := Aside0.mk (below_step (by repeat (first | (with_reducible first | exact HB.out | apply below_alloc | apply pw_below_drewN | apply below_drew1) | exact HB.out)) hb); (try clear hb); (try clear hb2); (try clear hk); (try clear hi)))
   go_ret
   exact ⟨by first | rfl | (simp [errW_none, errW_some] <;> rfl) | (simp [*, errW_none, errW_some] <;> rfl), by repeat (first | (with_reducible first | exact HB.out | apply below_alloc | apply pw_below_drewN | apply below_drew1) | exact HB.out)⟩
 ·rw [if_neg c3] at H
  have c3b0 : (t151.toList == ([49, 48, 46, 48, 46, 48, 46, 48, 47, 56] : List UInt8)) = false := beq_eq_false_iff_ne.mpr c3
  have c3b1 : (t151.toList != ([49, 48, 46, 48, 46, 48, 46, 48, 47, 56] : List UInt8)) = true := bne_iff_ne.mpr c3
  obtain rfl := Option.some.inj H
  go_enter Tryd.func4, Tryd.ntmps4
  go_wp2_with (first | ((with_reducible refine gate_dst (N := 6) rfl ?_); (try (refine gate_guard (by rfl) ?_; dsimp only)); refine Kd.R_lit k24 _ 24 ?hg (N := 6) ?hd (xs := ([(⟨167772160, 9⟩ : S24), (⟨176160768, 9⟩ : S24)] : List (S24))) (inner := [.int .u32 167772160, .int .i64 9, .int .u32 176160768, .int .i64 9]) (ok := fun _ => True) (okp := fun _ => True) ?hr ?hp (fun _ hk => hk) trivial (Below.refl _ _) (Nat.le_refl _) (by simp) ?_; (case hd => rfl); (case hg => rfl); (case hr => first | (go_simp; done) | (go_simp; rfl)); (case hp => exact (Reps.c2 (show Kd.M k24 _ _ _ (⟨167772160, 9⟩ : S24) [.int .u32 167772160, .int .i64 9] from (k24_mkM _ _ _ (⟨167772160, 9⟩ : S24) )) (Reps.c2 (show Kd.M k24 _ _ _ (⟨176160768, 9⟩ : S24) [.int .u32 176160768, .int .i64 9] from (k24_mkM _ _ _ (⟨176160768, 9⟩ : S24) )) (Reps.none _ _)))); intro v145 w20 ho21 hb hg_ hnew_; clear hg_ hnew_; (first | rw [← Ny144.out] at ho21 | (simp only [Int.reduceToNat] at ho21; rw [← Ny144.out] at ho21)); have aa := Aside0.mk (Kd.R_lower ho21 (below_size (by repeat (first | (with_reducible first | exact HB.out | apply below_alloc | apply pw_below_drewN | apply below_drew1) | exact HB.out)))); replace HB := Aside0.mk (below_step (by repeat (first | (with_reducible first | exact HB.out | apply below_alloc | apply pw_below_drewN | apply below_drew1) | exact HB.out)) hb); clear hb ho21; obtain ⟨Ao22, co22, eo22⟩ := Kd.R_slice aa.out; subst eo22) | ((with_reducible refine gate_callee (f := 8) rfl ?_); refine goesL_ (some 7) rfl rfl Tryd.func8 (by kernel_rfl) rfl #[.slice Ao22 y144.length co22] rfl (by (try simp only [List.map_toArray, List.map_cons, List.map_nil]); first | done | rfl) ?_; (with_reducible refine (addr_Plain.calls k _ _ y144 t147 t148 _ ?side1 ?side2 A1.out).mono ?_); (case side1 => repeat (first | exact (Kd.R_reads' aa.out).2.2 | (with_reducible refine Kd.C_alloc ?_ _) | (with_reducible refine Kd.C_drewN ?_ _) | (with_reducible refine Kd.C_drew ?_))); (case side2 => exact (Kd.R_reads' aa.out).2.1); rintro e w23 ⟨v149, rfl, ho0, hb⟩; refine ⟨_, rfl, ?_⟩; have n0_ := Aside0.mk (Kd.R_elder' (by (with_reducible repeat (first | apply Kd.R_alloc | apply Kd.R_drewN | apply Kd.R_drew)); exact aa.out) (Kd.R_base ho0) hb); have n1_ := Aside0.mk (Kd.R_lower (Kd.R_new' ho0 (Kd.R_lt (by (with_reducible repeat (first | apply Kd.R_alloc | apply Kd.R_drewN | apply Kd.R_drew)); exact aa.out))) (below_size (by repeat (first | (with_reducible first | exact HB.out | apply below_alloc | apply pw_below_drewN | apply below_drew1) | exact HB.out)))); have n2_ := Aside0.mk (below_step (by repeat (first | (with_reducible first | exact HB.out | apply below_alloc | apply pw_below_drewN | apply below_drew1) | exact HB.out)) hb); clear aa; clear HB; have aa := n0_; have ab := n1_; have HB := n2_; clear n0_ n1_ n2_; (try clear hb); (try clear hb2); (try clear hk); (try clear hi); (try clear ho0)) | ((with_reducible refine gate_callee (f := 6) rfl ?_); refine goesL_ (some 11) rfl rfl Tryd.func6 (by kernel_rfl) rfl #[.agg #[.int .u32 167772160, .int .i64 8]] rfl (by (try simp only [List.map_toArray, List.map_cons, List.map_nil]); first | done | rfl) ?_; (with_reducible refine (addr_Text.calls k 167772160 8 t151 _ A2.out).mono ?_); rintro e w24 ⟨rfl, hb⟩; refine ⟨_, rfl, ?_⟩; replace aa := Aside0.mk (Kd.R_below (by (with_reducible repeat (first | apply Kd.R_alloc | apply Kd.R_drewN | apply Kd.R_drew)); exact aa.out) hb); replace ab := Aside0.mk (Kd.R_below (by (with_reducible repeat (first | apply Kd.R_alloc | apply Kd.R_drewN | apply Kd.R_drew)); exact ab.out) hb); replace HB := Aside0.mk (below_step (by repeat (first | (with_reducible first | exact HB.out | apply below_alloc | apply pw_below_drewN | apply below_drew1) | exact HB.out)) hb); (try clear hb); (try clear hb2); (try clear hk); (try clear hi)))
  go_ret
  exact ⟨by first | rfl | (simp [errW_none, errW_some] <;> rfl) | (simp [*, errW_none, errW_some] <;> rfl), by repeat (first | (with_reducible first | exact HB.out | apply below_alloc | apply pw_below_drewN | apply below_drew1) | exact HB.out)⟩

def strings_Cut.f (a0 a1 : ByteArray) : Option (ByteArray × ByteArray × Bool) := match a1.data.toList with
  | [c] => if a0.size ≤ 4611686018427387904 then
      if 0 ≤ Lib.indexByte a0.data.toList c then some (⟨(a0.data.toList.take (Lib.indexByte a0.data.toList c).toNat).toArray⟩, ⟨(a0.data.toList.drop ((Lib.indexByte a0.data.toList c).toNat + 1)).toArray⟩, true)
      else some (a0, ⟨#[]⟩, false) else none
  | _ => none
theorem strings_Cut.idx_lt : ∀ (l : List UInt8) (c : UInt8), Lib.indexByte l c < (l.length : Int) ∧ -1 ≤ Lib.indexByte l c := by
  intro l c
  induction l with
  | nil => simp [Lib.indexByte]
  | cons b l ih =>
    unfold Lib.indexByte
    split
    · simp
    · split
      · simp; omega
      · simp; omega
set_option maxHeartbeats 1000000 in
set_option maxRecDepth 100000 in
theorem strings_Cut.calls (a0 : ByteArray) (a1 : ByteArray) (r1 : ByteArray) (r2 : ByteArray) (r3 : Bool) (w : World) (h : strings_Cut.f a0 a1 = some (r1, r2, r3)) :
    Calls Tryd.prog 10 #[.string a0, .string a1] w fun e w' => e = .returned (.tuple #[.string r1, .string r2, .bool r3]) ∧ Below w.heap.size w w' := by
  have hcut : Calls Tryd.prog 18 #[.string a0, .string a1] w fun e w' => e = .returned (.tuple #[.string r1, .string r2, .bool r3]) ∧ Below w.heap.size w w' := by
    unfold strings_Cut.f at h
    split at h
    · rename_i c hc
      obtain rfl : a1 = ⟨#[c]⟩ := by
        apply ByteArray.ext
        apply Array.ext'
        exact hc
      split at h
      · rename_i hs
        have hlen : a0.data.toList.length = a0.size := by rw [Array.length_toList]; rfl
        obtain ⟨hi1, hi2⟩ := strings_Cut.idx_lt a0.data.toList c
        have HI := mkHid (Tryd.stringslite_Index_one a0 c)
        generalize hI : Lib.indexByte a0.data.toList c = i at *
        have HLEN := mkHid hlen
        have hi3 : i < (a0.size : Int) := by omega
        clear hlen hi1
        by_cases h0 : 0 ≤ i
        · rw [if_pos h0] at h
          have hinj := mkHid (Option.some.inj h)
          have q0 : decide (0 ≤ i) = true := decide_eq_true h0
          have hw1 : IntKind.i64.wrap (i + 1) = i + 1 := IntWalk.i64_in _ (by omega)
          have g1 : (0 : Int) ≤ i + 1 := by omega
          have g2 : i + 1 ≤ (a0.size : Int) := by omega
          have g3 : i ≤ (a0.size : Int) := by omega
          clear h hI hc
          go_enter Tryd.func18, Tryd.ntmps18
          go_wp2_with (go_at_call 31; refine (HI.out _).mono ?_; rintro e w' ⟨rfl, rfl⟩)
          go_quiet (fail)
          go_wp2_with fail
          refine bodyPost_ret (v := .tuple #[.string r1, .string r2, .bool r3]) ?_ rfl ⟨rfl, by repeat (first | exact Below.refl _ _ | apply pw_below_drewN | apply below_drew1)⟩
          have e1 := Prod.mk.inj hinj.out
          obtain ⟨e2, e3⟩ := Prod.mk.inj e1.2
          have x1 := ext_take a0 i.toNat
          have x2 := ext_drop a0 (i.toNat + 1)
          rw [e1.1] at x1
          rw [e2] at x2
          have x3 : (i + 1).toNat = i.toNat + 1 := by omega
          simp [results, Tryd.results18, go_sem, x1, x2, x3, e3]
        · rw [if_neg h0] at h
          obtain ⟨rfl, h2⟩ := Prod.mk.inj (Option.some.inj h)
          obtain ⟨rfl, rfl⟩ := Prod.mk.inj h2
          have q0 : decide (0 ≤ i) = false := decide_eq_false h0
          clear h hI hc h2
          go_enter Tryd.func18, Tryd.ntmps18
          go_wp2_with (go_at_call 31; refine (HI.out _).mono ?_; rintro e w' ⟨rfl, rfl⟩)
          refine bodyPost_ret (v := .tuple #[.string a0, .string ⟨#[]⟩, .bool false]) ?_ rfl ⟨rfl, Below.refl _ _⟩
          simp [results, Tryd.results18, go_sem]
      · exact absurd h (by simp)
    · exact absurd h (by simp)
  have HC := mkHid hcut
  clear hcut h
  go_enter Tryd.func10, Tryd.ntmps10
  go_wp2_with (go_at_call 18; refine HC.out.mono ?_; rintro e w' ⟨rfl, hb⟩; have HB := mkHid hb; clear hb)
  refine bodyPost_ret (v := .tuple #[.string r1, .string r2, .bool r3]) ?_ rfl ⟨rfl, HB.out⟩
  simp [results, Tryd.results10, go_sem]

def strings_Split.f (a0 a1 : ByteArray) : Option (List ByteArray) := match a1.data.toList with
  | [c] => if a0.size < 4294967281 then some (Lib.splitB ⟨#[c]⟩ 0 (Lib.countB a0 ⟨#[c]⟩) a0) else none
  | _ => none
set_option maxHeartbeats 1000000 in
set_option maxRecDepth 100000 in
theorem strings_Split.calls (a0 : ByteArray) (a1 : ByteArray) (r : List ByteArray) (w : World) (h : strings_Split.f a0 a1 = some r) :
    Calls Tryd.prog 11 #[.string a0, .string a1] w fun e w' => ∃ v0_ : Value, e = .returned v0_ ∧ Kd.R Kd.string 9 w' w.heap.size (fun _ => True) v0_ r ∧ Below w.heap.size w w' := by
  unfold strings_Split.f at h
  split at h
  · rename_i c hc
    obtain rfl : a1 = ⟨#[c]⟩ := by
      apply ByteArray.ext
      apply Array.ext'
      exact hc
    split at h
    · rename_i hs
      have h1 : 1 ≤ (⟨#[c]⟩ : ByteArray).size := by show 1 ≤ 1; omega
      have hle := Lib.countB_le ⟨#[c]⟩ h1 a0.size a0 (Nat.le_refl _)
      have hlen := Lib.splitB_all ⟨#[c]⟩ h1 0 _ a0 rfl
      have hC : Calls Tryd.prog 33 #[.string a0, .string ⟨#[c]⟩] w fun e w' => e = .returned (.int .i64 (Lib.countB a0 ⟨#[c]⟩)) ∧ w' = w := by
        refine (Tryd.strings_Count_one a0 c w).mono ?_
        rintro e w' ⟨he, hw⟩
        refine ⟨?_, hw⟩
        rw [he]
        show _ = Ending.returned (Value.int .i64 ((Lib.count a0.data.toList [c] : Nat) : Int))
        rw [Lib.count_one]; rfl
      have hI : ∀ (x : ByteArray) (cs : Array Value), x.size ≤ a0.size → Calls Tryd.prog 34 #[.string x, .string ⟨#[c]⟩] (w.alloc (.cells cs 9)) fun e w' => e = .returned (.int .i64 (Lib.indexB x ⟨#[c]⟩)) ∧ w' = w.alloc (.cells cs 9) := by
        intro x cs _
        refine (Tryd.strings_Index_one x c _).mono ?_
        rintro e w' ⟨he, hw⟩
        refine ⟨?_, hw⟩
        rw [he]
        show _ = Ending.returned (Value.int .i64 (Lib.index x.data.toList [c]))
        rw [Lib.index_one]
      have cc := Any.strings_genSplit_core Tryd.lays221 (by kernel_rfl) a0 ⟨#[c]⟩ 0 (-1) (Lib.countB a0 ⟨#[c]⟩ + 1) w hs h1 (Nat.zero_le _) hI hC (by decide) (by decide) (by rw [if_pos (by decide)]; omega)
      rw [Nat.add_sub_cancel, hlen] at cc
      have e2 : Lib.cellsOf (Lib.splitB ⟨#[c]⟩ 0 (Lib.countB a0 ⟨#[c]⟩) a0) (Lib.countB a0 ⟨#[c]⟩ + 1) = ((Lib.splitB ⟨#[c]⟩ 0 (Lib.countB a0 ⟨#[c]⟩) a0).map Value.string).toArray := by rw [← hlen]; exact Lib.cellsOf_full _
      rw [e2] at cc
      obtain rfl := Option.some.inj h
      rw [← hlen] at cc
      generalize Lib.splitB ⟨#[c]⟩ 0 (Lib.countB a0 ⟨#[c]⟩) a0 = r at *
      have hrl : r.length ≤ 9223372036854775807 := by omega
      have HC := mkHid cc
      have HL := mkHid hrl
      clear cc hlen hC hI hle h e2 hc hrl
      go_enter Tryd.func11, Tryd.ntmps11
      go_wp2_with (go_at_call 19; refine HC.out.mono ?_; rintro e w' ⟨rfl, hw⟩; rw [hw])
      go_ret
      refine ⟨_, rfl, ?_, (Below.refl _ _).alloc (Nat.le_refl _) _⟩
      refine flat_own (w := w) (inner := r.map Value.string) (fun h _ _ _ => h) (World.ownsRow_lit (base := w.heap.size) (size := 1) (e := 9) w (r.map Value.string).toArray r.length (Nat.le_refl _) ?_ (by simp)) rfl ⟨by show _ = r.length * 1; simp, fun j p hj => ?_⟩
      · have := HL.out; unfold maxLen; omega
      · show ((r.map Value.string).drop (j * 1)).take 1 = [.string p]
        rw [Nat.mul_one]
        have h2 : (r.map Value.string)[j]? = some (.string p) := by rw [List.getElem?_map, hj]; rfl
        obtain ⟨h3, h4⟩ := List.getElem?_eq_some_iff.1 h2
        rw [List.drop_eq_getElem_cons h3, h4]; rfl
    · exact absurd h (by simp)
  · exact absurd h (by simp)

def addr_number.lim : Int := 1000
def addr_number.f (a0 : ByteArray) : Option (Int × Bool) := if a0.size ≤ 9223372036854775806 then some (numL addr_number.lim a0.data.toList) else none
set_option maxHeartbeats 2000000 in
set_option maxRecDepth 100000 in
theorem addr_number.any (s : ByteArray) (w : World) (hs : s.size ≤ 9223372036854775806) (h0 : s.data.toList ≠ []) (h1 : ¬ (1 < s.size ∧ s.data.toList.head? = some 48)) :
    Calls Tryd.prog 12 #[.string s] w fun e w' => e = .returned (.tuple #[.int .i64 (if s.data.toList.all isDg then numF 1000 0 s.data.toList else 0), .bool (s.data.toList.all isDg)]) ∧ Below w.heap.size w w' := by
  have hlen : s.data.toList.length = s.size := by rw [Array.length_toList]; rfl
  have hpos : 0 < s.size := by rw [← hlen]; exact List.length_pos_iff.2 h0
  have hcv := Lib.run_convert_string_bytes (P := Tryd.prog) w 9 49 5 s Tryd.underlying9 Tryd.underlying49 Tryd.underlying5
  have q1 : (s.toList == ([] : List UInt8)) = false := by rw [ByteArray.toList_eq]; simpa using h0
  have HC : Hid (∀ j, j < s.size → (Lib.bytesWorld w 5 s).cell? ⟨w.heap.size, j, none⟩ = some (.int .u8 (s.data.toList.getD j 0).toNat)) := fun j hj => Lib.bytesWorld_cell w _ s j hj
  have HB : Hid (Below w.heap.size w (Lib.bytesWorld w 5 s)) := bytesWorld_below w _ s
  have HL := mkHid hlen
  have H1 := mkHid h1
  have H0 := mkHid h0
  have hlim : ∀ (n x : Int), mn (10 * n + (x - 48)) 1000 = min (10 * n + (x - 48)) 1000 := fun n x => by unfold mn; omega
  have HM := mkHid hlim
  generalize hD : (if s.data.toList.all isDg then numF 1000 0 s.data.toList else 0) = D
  generalize hE : s.data.toList.all isDg = E
  have HD := mkHid hD
  have HE := mkHid hE
  clear h1 hlen h0 hlim hD hE
  have fin : ∀ W1 : World, Hid (Below w.heap.size w W1) → Hid (∀ j, j < s.size → W1.cell? ⟨w.heap.size, j, none⟩ = some (.int .u8 (s.data.toList.getD j 0).toNat)) → True := fun _ _ _ => trivial
  clear fin
  go_enter Tryd.func12, Tryd.ntmps12
  by_cases hb : 1 < s.size
  · have q2 : decide ((1 : Int) < (s.size : Int)) = true := decide_eq_true (by omega)
    have q3 := head48f s hpos (fun e => H1.out ⟨hb, e⟩)
    go_wp2_with fail
    generalize Lib.bytesWorld w 5 s = W1 at *
    generalize grownCap w s.size 0 5 = C1 at *
    clear hcv
    go_loopg [4, 22] s.size (fun kq v4 v22 wr => ∃ (n k : Int), v4 = .int .i64 n ∧ v22 = .int .i64 k ∧ 0 ≤ n ∧ n ≤ 1000 ∧ 0 ≤ k ∧ k ≤ s.size ∧ Hid (k + kq = s.size) ∧ Hid ((s.data.toList.take k.toNat).all isDg = true) ∧ Hid (numF 1000 n (s.data.toList.drop k.toNat) = numF 1000 0 s.data.toList) ∧ Hid (wr = W1))
    case atStart => exact ⟨0, 0, rfl, rfl, by omega, by omega, by omega, by omega, by unfold Hid; omega, rfl, rfl, rfl⟩
    case round =>
      obtain ⟨n, k, rfl, rfl, n0, n1, k0, kn, hk, hall, hnum, hW⟩ := hrel
      have hk1 := hk.out
      by_cases hkn : k < s.size
      · have hw0 := hW.out
        subst hw0
        have hc := HC.out k.toNat (by omega)
        obtain ⟨c, hcl⟩ : ∃ c, s.data.toList[k.toNat]? = some c := ⟨_, List.getElem?_eq_getElem (h := by rw [HL.out]; omega)⟩
        have hx0 : (s.data.toList.getD k.toNat 0) = c := by rw [List.getD_eq_getElem?_getD, hcl]; rfl
        rw [hx0] at hc
        have hcr := c.toNat_lt
        obtain ⟨x, hx⟩ : ∃ x : Int, x = (c.toNat : Int) := ⟨_, rfl⟩
        rw [← hx] at hc
        have x0 : 0 ≤ x := by omega
        have x1 : x ≤ 255 := by omega
        have HX := mkHid hx
        have hdr := List.drop_eq_getElem_cons (l := s.data.toList) (i := k.toNat) (by rw [HL.out]; omega)
        have htk := List.take_add_one (l := s.data.toList) (i := k.toNat)
        rw [hcl] at htk
        have hce : s.data.toList[k.toNat]'(by rw [HL.out]; omega) = c := by rw [List.getElem?_eq_getElem (h := by rw [HL.out]; omega)] at hcl; exact Option.some.inj hcl
        rw [hce] at hdr
        have HDR := mkHid hdr
        have HTK := mkHid htk
        have HMEM : Hid (c ∈ s.data.toList) := List.mem_of_getElem? hcl
        clear hx hx0 hcl hdr htk hce
        have qk : decide (k < (s.size : Int)) = true := decide_eq_true hkn
        have hw1 : IntKind.i64.wrap (k + 1) = k + 1 := IntWalk.i64_in _ (by omega)
        by_cases hd : 48 ≤ x ∧ x ≤ 57
        · obtain ⟨hd0, hd1⟩ := hd
          have qa : decide (x < 48) = false := decide_eq_false (by omega)
          have qb : decide (57 < x) = false := decide_eq_false (by omega)
          go_wp2_with fail
          all_goals
            go_roundg (gk - 1)
            case measure => omega
            case rel =>
              refine ⟨min (10 * n + (x - 48)) 1000, k + 1, ?_, rfl, by omega, by omega, by omega, by omega, by unfold Hid; omega, ?_, ?_, rfl⟩
              · congr 1; omega
              · show (s.data.toList.take (k + 1).toNat).all isDg = true
                rw [show (k + 1).toNat = k.toNat + 1 by omega, HTK.out, List.all_append, hall.out]
                have hxx := HX.out
                simp [isDg]
                omega
              · show numF _ _ (s.data.toList.drop (k + 1).toNat) = _
                rw [show (k + 1).toNat = k.toNat + 1 by omega]
                have := hnum.out
                rw [HDR.out] at this
                rw [HX.out]
                exact this
        · have hne : c ∈ s.data.toList ∧ isDg c = false := ⟨HMEM.out, by have hxx := HX.out; unfold isDg; simp; omega⟩
          have hEf : E = false := by rw [← HE.out, List.all_eq_false]; exact ⟨c, hne.1, by rw [hne.2]; simp⟩
          have hDf : D = 0 := by rw [← HD.out, HE.out, hEf]; rfl
          have HEF := mkHid hEf
          have HDF := mkHid hDf
          clear hEf hDf hne
          by_cases hlo : x < 48
          · have qa : decide (x < 48) = true := decide_eq_true hlo
            go_wp2_with fail
            go_ret2
            refine ⟨?_, HB.out⟩
            rw [HEF.out, HDF.out]; rfl
          · have qa : decide (x < 48) = false := decide_eq_false (by omega)
            have qb : decide (57 < x) = true := decide_eq_true (by omega)
            go_wp2_with fail
            go_ret2
            refine ⟨?_, HB.out⟩
            rw [HEF.out, HDF.out]; rfl
      · have qk : decide (k < (s.size : Int)) = false := decide_eq_false (by omega)
        go_wp2_with fail
        go_ret2
        have hk2 : k.toNat = s.size := by omega
        have ht : E = true := by
          have := hall.out
          rw [hk2, ← HL.out, List.take_length] at this
          rw [← HE.out]; exact this
        have hn : D = n := by
          have := hnum.out
          rw [hk2, ← HL.out, List.drop_length] at this
          rw [← HD.out, HE.out, ht, if_pos rfl, ← this]; rfl
        refine ⟨?_, ?_⟩
        · rw [ht, hn]; rfl
        · rw [hW.out]; exact HB.out
  · have q2 : decide ((1 : Int) < (s.size : Int)) = false := decide_eq_false (by omega)
    go_wp2_with fail
    generalize Lib.bytesWorld w 5 s = W1 at *
    generalize grownCap w s.size 0 5 = C1 at *
    clear hcv
    go_loopg [4, 22] s.size (fun kq v4 v22 wr => ∃ (n k : Int), v4 = .int .i64 n ∧ v22 = .int .i64 k ∧ 0 ≤ n ∧ n ≤ 1000 ∧ 0 ≤ k ∧ k ≤ s.size ∧ Hid (k + kq = s.size) ∧ Hid ((s.data.toList.take k.toNat).all isDg = true) ∧ Hid (numF 1000 n (s.data.toList.drop k.toNat) = numF 1000 0 s.data.toList) ∧ Hid (wr = W1))
    case atStart => exact ⟨0, 0, rfl, rfl, by omega, by omega, by omega, by omega, by unfold Hid; omega, rfl, rfl, rfl⟩
    case round =>
      obtain ⟨n, k, rfl, rfl, n0, n1, k0, kn, hk, hall, hnum, hW⟩ := hrel
      have hk1 := hk.out
      by_cases hkn : k < s.size
      · have hw0 := hW.out
        subst hw0
        have hc := HC.out k.toNat (by omega)
        obtain ⟨c, hcl⟩ : ∃ c, s.data.toList[k.toNat]? = some c := ⟨_, List.getElem?_eq_getElem (h := by rw [HL.out]; omega)⟩
        have hx0 : (s.data.toList.getD k.toNat 0) = c := by rw [List.getD_eq_getElem?_getD, hcl]; rfl
        rw [hx0] at hc
        have hcr := c.toNat_lt
        obtain ⟨x, hx⟩ : ∃ x : Int, x = (c.toNat : Int) := ⟨_, rfl⟩
        rw [← hx] at hc
        have x0 : 0 ≤ x := by omega
        have x1 : x ≤ 255 := by omega
        have HX := mkHid hx
        have hdr := List.drop_eq_getElem_cons (l := s.data.toList) (i := k.toNat) (by rw [HL.out]; omega)
        have htk := List.take_add_one (l := s.data.toList) (i := k.toNat)
        rw [hcl] at htk
        have hce : s.data.toList[k.toNat]'(by rw [HL.out]; omega) = c := by rw [List.getElem?_eq_getElem (h := by rw [HL.out]; omega)] at hcl; exact Option.some.inj hcl
        rw [hce] at hdr
        have HDR := mkHid hdr
        have HTK := mkHid htk
        have HMEM : Hid (c ∈ s.data.toList) := List.mem_of_getElem? hcl
        clear hx hx0 hcl hdr htk hce
        have qk : decide (k < (s.size : Int)) = true := decide_eq_true hkn
        have hw1 : IntKind.i64.wrap (k + 1) = k + 1 := IntWalk.i64_in _ (by omega)
        by_cases hd : 48 ≤ x ∧ x ≤ 57
        · obtain ⟨hd0, hd1⟩ := hd
          have qa : decide (x < 48) = false := decide_eq_false (by omega)
          have qb : decide (57 < x) = false := decide_eq_false (by omega)
          go_wp2_with fail
          all_goals
            go_roundg (gk - 1)
            case measure => omega
            case rel =>
              refine ⟨min (10 * n + (x - 48)) 1000, k + 1, ?_, rfl, by omega, by omega, by omega, by omega, by unfold Hid; omega, ?_, ?_, rfl⟩
              · congr 1; omega
              · show (s.data.toList.take (k + 1).toNat).all isDg = true
                rw [show (k + 1).toNat = k.toNat + 1 by omega, HTK.out, List.all_append, hall.out]
                have hxx := HX.out
                simp [isDg]
                omega
              · show numF _ _ (s.data.toList.drop (k + 1).toNat) = _
                rw [show (k + 1).toNat = k.toNat + 1 by omega]
                have := hnum.out
                rw [HDR.out] at this
                rw [HX.out]
                exact this
        · have hne : c ∈ s.data.toList ∧ isDg c = false := ⟨HMEM.out, by have hxx := HX.out; unfold isDg; simp; omega⟩
          have hEf : E = false := by rw [← HE.out, List.all_eq_false]; exact ⟨c, hne.1, by rw [hne.2]; simp⟩
          have hDf : D = 0 := by rw [← HD.out, HE.out, hEf]; rfl
          have HEF := mkHid hEf
          have HDF := mkHid hDf
          clear hEf hDf hne
          by_cases hlo : x < 48
          · have qa : decide (x < 48) = true := decide_eq_true hlo
            go_wp2_with fail
            go_ret2
            refine ⟨?_, HB.out⟩
            rw [HEF.out, HDF.out]; rfl
          · have qa : decide (x < 48) = false := decide_eq_false (by omega)
            have qb : decide (57 < x) = true := decide_eq_true (by omega)
            go_wp2_with fail
            go_ret2
            refine ⟨?_, HB.out⟩
            rw [HEF.out, HDF.out]; rfl
      · have qk : decide (k < (s.size : Int)) = false := decide_eq_false (by omega)
        go_wp2_with fail
        go_ret2
        have hk2 : k.toNat = s.size := by omega
        have ht : E = true := by
          have := hall.out
          rw [hk2, ← HL.out, List.take_length] at this
          rw [← HE.out]; exact this
        have hn : D = n := by
          have := hnum.out
          rw [hk2, ← HL.out, List.drop_length] at this
          rw [← HD.out, HE.out, ht, if_pos rfl, ← this]; rfl
        refine ⟨?_, ?_⟩
        · rw [ht, hn]; rfl
        · rw [hW.out]; exact HB.out
theorem addr_number.calls (a0 : ByteArray) (r1 : Int) (r2 : Bool) (w : World) (h : addr_number.f a0 = some (r1, r2)) :
    Calls Tryd.prog 12 #[.string a0] w fun e w' => e = .returned (.tuple #[.int .i64 r1, .bool r2]) ∧ Below w.heap.size w w' := by
  unfold addr_number.f at h
  split at h
  · rename_i hs
    have hlen : a0.data.toList.length = a0.size := by rw [Array.length_toList]; rfl
    unfold numL at h
    split at h
    · rename_i hh
      obtain ⟨rfl, rfl⟩ := Prod.mk.inj (Option.some.inj h)
      by_cases h0 : a0.data.toList = []
      · have q1 : (a0.toList == ([] : List UInt8)) = true := by rw [ByteArray.toList_eq]; simpa using h0
        clear hh h hlen hs h0
        go_enter Tryd.func12, Tryd.ntmps12
        go_wp2_with fail
        go_ret2
        exact ⟨rfl, Below.refl _ _⟩
      · obtain ⟨hb, hh⟩ := hh.resolve_left h0
        rw [hlen] at hb
        have q1 : (a0.toList == ([] : List UInt8)) = false := by rw [ByteArray.toList_eq]; simpa using h0
        have q2 : decide ((1 : Int) < (a0.size : Int)) = true := decide_eq_true (by omega)
        have q3 := head48t a0 (Nat.lt_trans Nat.zero_lt_one hb) hh
        clear hh h hlen hs h0
        go_enter Tryd.func12, Tryd.ntmps12
        go_wp2_with fail
        go_ret2
        exact ⟨rfl, Below.refl _ _⟩
    · rename_i hh
      have h0 : a0.data.toList ≠ [] := fun e => hh (.inl e)
      have h1 : ¬ (1 < a0.size ∧ a0.data.toList.head? = some 48) := fun e => hh (.inr (by rw [hlen]; exact e))
      refine (addr_number.any a0 w hs h0 h1).mono fun e w' ⟨he, hb⟩ => ⟨?_, hb⟩
      rw [he]
      split at h <;> rename_i hg <;> obtain ⟨rfl, rfl⟩ := Prod.mk.inj (Option.some.inj h)
      · rw [if_pos hg, hg]; rfl
      · rw [if_neg hg, Bool.eq_false_iff.2 hg]
  · exact absurd h (by simp)

end Go.Proofs.YtckffheolnmcnabDoor.P

end
section
namespace Go.Proofs.YtckffheolnmcnabDoor.P
open Go.RowKit Go.Proofs.YtckffheolnmcnabDoorW.PrintWords Go.Proofs.YtckffheolnmcnabDoorW.PrintLast Go.Proofs.YtckffheolnmcnabDoorW.PrintMore
attribute [local go_sem] max2_int min2_int max_two min_two max_three min_three max_four min_four   -- for this text's walks alone
set_option linter.unusedVariables false
set_option linter.unusedSimpArgs false

mutual
def addr_Parse.j0 : Nat → List ByteArray → Bool → Option (Int × Int × Int)
  | 0, _, _ => none
  | k + 1, x7, x31 => if x31 = true then (some (0, 0, 4)) else (addr_Parse.l0 k false x7 (x7.length : Int) 0 0 0)
def addr_Parse.l0 : Nat → Bool → List ByteArray → Int → Int → Int → Int → Option (Int × Int × Int)
  | 0, _, _, _, _, _, _ => none
  | k + 1, x9, x34, x35, x36, x167000, x167001 => if x36 < x35 then (if 0 ≤ x36 then (if x36 < (x34.length : Int) then ((addr_number.f (rdOf ByteArray.empty x34 x36)).bind fun bt168 => (if bt168.2 = true then (if x36 < 4 then (if x9 = true then (addr_Parse.l0 k true x34 x35 (wrap64 (x36 + 1)) (Go.bits .or .u32 ((x167000 * 256) % 4294967296) ((bt168.1) % 4294967296)) x167001) else (addr_Parse.l0 k (decide (bt168.1 > 255)) x34 x35 (wrap64 (x36 + 1)) (Go.bits .or .u32 ((x167000 * 256) % 4294967296) ((bt168.1) % 4294967296)) x167001)) else (if x9 = true then (addr_Parse.l0 k true x34 x35 (wrap64 (x36 + 1)) x167000 bt168.1) else (addr_Parse.l0 k (decide (bt168.1 > 32)) x34 x35 (wrap64 (x36 + 1)) x167000 bt168.1))) else (some (0, 0, 4)))) else (none)) else (none)) else (if x9 = true then (some (0, 0, 7)) else ((addr_May.f x167000 x167001).bind fun t170 => (if t170 = true then (some (x167000, x167001, 0)) else (some (0, 0, 1)))))
end
def addr_Parse.f (k : Nat) (a0 : ByteArray) : Option (Int × Int × Int) := (strings_Cut.f a0 (⟨#[47]⟩ : ByteArray)).bind fun bt157 => ((strings_Split.f bt157.1 (⟨#[46]⟩ : ByteArray)).bind fun t160 => (if t160.length < 8796093022208 then ((some (t160 ++ [bt157.2.1] : List ByteArray)).bind fun y163 => (if bt157.2.2 = true then (addr_Parse.j0 k y163 ((y163.length : Int) != 5)) else (addr_Parse.j0 k y163 true))) else (none)))
set_option maxHeartbeats 8000000 in
set_option maxRecDepth 100000 in
theorem addr_Parse.calls (k : Nat) (a0 : ByteArray) (r1 : Int) (r2 : Int) (r3 : Int) (w : World) (h : addr_Parse.f k a0 = some (r1, r2, r3)) :
  Calls Tryd.prog 5 #[.string a0] w fun e w' => e = .returned (.tuple #[.agg #[.int .u32 r1, .int .i64 r2], .int .i64 r3]) ∧ Below w.heap.size w w' := by
 have hu24 := Tryd.underlying24
 have HB := Aside0.mk (Below.refl w.heap.size w)
 have H := h
 unfold addr_Parse.f at H
 clear h
 replace H := Option.bind_eq_some_iff.mp H
 obtain ⟨⟨t157, t158, t159⟩, A20, H⟩ := H
 (try dsimp only at H)
 have A2 := Aside0.mk A20
 clear A20
 replace H := Option.bind_eq_some_iff.mp H
 obtain ⟨t160, A30, H⟩ := H
 (try dsimp only at H)
 have A3 := Aside0.mk A30
 clear A30
 by_cases c4 : t160.length < 8796093022208
 ·rw [if_pos c4] at H
  have LMc4 := Aside0.mk c4
  clear c4
  obtain ⟨ag, hy163⟩ : ∃ y_ : List ByteArray, y_ = (t160 ++ [t158]) := ⟨_, rfl⟩
  replace H : (if t159 = true then (addr_Parse.j0 k ag ((ag.length : Int) != 5)) else (addr_Parse.j0 k ag true)) = some (r1, r2, r3) := by first | (rw [hy163]; with_reducible exact H) | (have H2_ := (Option.bind_some _ _).symm.trans H; rw [hy163]; with_reducible exact H2_) | (have H2_ := (Option.bind_some _ _).symm.trans H; with_reducible exact H2_) | with_reducible exact H | (rw [hy163]; exact H) | exact H
  have Ny163 := Aside0.mk hy163
  clear hy163
  have HC5 := Aside0.mk H
  clear H
  go_enter Tryd.func5, Tryd.ntmps5
  go_upto_region 3 with (first | ((with_reducible refine gate_dst (N := 2) rfl ?_); (try (refine gate_guard (by rfl) ?_; dsimp only)); refine box_event ?hg (N := 2) ?hd (cs := #[.int .u32 0, .int .i64 0]) (t := 24) ?hr ?_; (case hd => rfl); (case hg => rfl); (case hr => first | (go_simp; done) | (go_simp; rfl)); intro ad hg w6 hbox hb; have n0_ := Aside0.mk (below_step (by repeat (first | (with_reducible first | exact HB.out | apply below_alloc | apply pw_below_drewN | apply below_drew1) | exact HB.out)) hb); have n1_ := Aside0.mk (hbox); have n2_ := Aside0.mk ((by rw [hg]; exact (below_size (by repeat (first | (with_reducible first | exact HB.out | apply below_alloc | apply pw_below_drewN | apply below_drew1) | exact HB.out))) : w.heap.size ≤ ad)); have n3_ := Aside0.mk ((by rw [hg]; exact (below_size (by repeat (first | (with_reducible first | exact HB.out | apply below_alloc | apply pw_below_drewN | apply below_drew1) | exact HB.out))) : w.heap.size ≤ ad)); clear HB; have HB := n0_; have aa := n1_; have GW156 := n2_; have af := n3_; clear n0_ n1_ n2_ n3_; clear hb hbox hg) | ((with_reducible refine gate_callee (f := 10) rfl ?_); refine goesL_ (some 16) rfl rfl Tryd.func10 (by kernel_rfl) rfl #[.string a0, .string (⟨#[47]⟩ : ByteArray)] rfl (by (try simp only [List.map_toArray, List.map_cons, List.map_nil]); first | done | rfl) ?_; (with_reducible refine (strings_Cut.calls a0 (⟨#[47]⟩ : ByteArray) t157 t158 t159 _ A2.out).mono ?_); rintro e w7 ⟨rfl, hb⟩; refine ⟨_, rfl, ?_⟩; replace aa := Aside0.mk (blk_below (g := ad) (by (with_reducible repeat (first | refine blk_drewN ?_ _ | refine blk_drew ?_ | refine blk_alloc ?_ _)); exact aa.out) hb); replace HB := Aside0.mk (below_step (by repeat (first | (with_reducible first | exact HB.out | apply below_alloc | apply pw_below_drewN | apply below_drew1 | refine below_set ?_ af.out) | exact HB.out)) hb); (try clear hb); (try clear aj); (try clear hk); (try clear hi)) | ((with_reducible refine gate_callee (f := 11) rfl ?_); refine goesL_ (some 21) rfl rfl Tryd.func11 (by kernel_rfl) rfl #[.string t157, .string (⟨#[46]⟩ : ByteArray)] rfl (by (try simp only [List.map_toArray, List.map_cons, List.map_nil]); first | done | rfl) ?_; (with_reducible refine (strings_Split.calls t157 (⟨#[46]⟩ : ByteArray) t160 _ A3.out).mono ?_); rintro e w8 ⟨v161, rfl, ho0, hb⟩; refine ⟨_, rfl, ?_⟩; have HO162 := Aside0.mk (Kd.R_lower ho0 (below_size (by repeat (first | (with_reducible first | exact HB.out | apply below_alloc | apply pw_below_drewN | apply below_drew1 | refine below_set ?_ af.out) | exact HB.out)))); replace aa := Aside0.mk (blk_below (g := ad) (by (with_reducible repeat (first | refine blk_drewN ?_ _ | refine blk_drew ?_ | refine blk_alloc ?_ _)); exact aa.out) hb); replace HB := Aside0.mk (below_step (by repeat (first | (with_reducible first | exact HB.out | apply below_alloc | apply pw_below_drewN | apply below_drew1 | refine below_set ?_ af.out) | exact HB.out)) hb); (try clear hb); (try clear aj); (try clear hk); (try clear hi); (try clear ho0)) | ((with_reducible refine gate_builtin (b := .append) (xs := #[.tmp 21, .tmp 23]) rfl ?_); (try (refine gate_guard (by rfl) ?_; dsimp only)); at_builtin; refine Kd.R_append Kd.string (w0 := w) w.heap.size rfl (.tmp 21) (.tmp 23) 38 9 (.string ⟨#[]⟩) 16 rfl Tryd.underlying38 info9 rfl (by decide) (by omega) v161 t160 t158 [.string t158] (fun _ => True) (fun _ => False) rfl rfl ?aP (fun _ hk => hk.elim) ?aF ?aO ?aB ?aS ?aL ?_; (case aP => exact rfl); (case aB => exact (by repeat (first | (with_reducible first | exact HB.out | apply below_alloc | apply pw_below_drewN | apply below_drew1 | refine below_set ?_ af.out) | exact HB.out))); (case aF => exact (fun _ _ => trivial)); (case aO => exact (by (with_reducible repeat (first | apply Kd.R_alloc | apply Kd.R_drewN | apply Kd.R_drew)); exact HO162.out)); (case aS => exact (below_size (by repeat (first | (with_reducible first | exact HB.out | apply below_alloc | apply pw_below_drewN | apply below_drew1 | refine below_set ?_ af.out) | exact HB.out)))); (case aL => have := LMc4.out; omega); intro v164 w9 ho hb hg hat; rw [← Ny163.out] at ho; replace aa := Aside0.mk (blk_grown (g := ad) (o := .cells #[.int .u32 0, .int .i64 0] 24 (0, 0)) (by (with_reducible repeat (first | refine blk_drewN ?_ _ | refine blk_drew ?_ | refine blk_alloc ?_ _)); exact aa.out) hg (Kd.R_ne HO162.out aa.out (by decide))); replace HB := Aside0.mk (hb); have HO165 := Aside0.mk (ho); clear HO162; clear ho hb hg hat))
  (try simp only [Act.put, List.setIfInBounds_toArray, List.set_cons_zero, List.set_cons_succ])
  go_cut [31] (fun v31 wc => ∃ (kq : Nat) (x31_4 : Bool), v31 = .bool x31_4 ∧ Aside0 (addr_Parse.j0 kq ag x31_4 = some (r1, r2, r3)) ∧ Aside0 (kq ≤ k) ∧ Aside0 (Kd.R Kd.string 9 wc w.heap.size (fun _ => True) v164 ag) ∧ Aside0 (wc.heap[ad]? = some (.cells #[.int .u32 0, .int .i64 0] 24 (0, 0))) ∧ Aside0 (Below w.heap.size w wc))
  case first =>
   have H := HC5.out
   clear HC5
   by_cases c10 : t159 = true
   ·subst c10
    have H1 : (addr_Parse.j0 k ag ((ag.length : Int) != 5)) = some (r1, r2, r3) := by rw [if_pos rfl] at H; exact H
    clear H
    have H := H1
    clear H1
    have H' := Aside0.mk H
    clear H
    obtain ⟨Ao11, co11, eo11⟩ := Kd.R_slice HO165.out
    subst eo11
    go_wp2
    go_meet
    case rel => exact ⟨_, (((ag.length : Int) != 5)), (by first | rfl | (simp; done) | (simp [*]; done)), H', ⟨by first | omega | exact Nat.le_refl _⟩, ⟨by (with_reducible repeat (first | apply Kd.R_alloc | apply Kd.R_drewN | apply Kd.R_drew)); exact HO165.out⟩, ⟨by (with_reducible repeat (first | refine blk_drewN ?_ _ | refine blk_drew ?_ | refine blk_alloc ?_ _)); exact aa.out⟩, ⟨by repeat (first | (with_reducible first | exact HB.out | apply below_alloc | apply pw_below_drewN | apply below_drew1 | refine below_set ?_ af.out) | exact HB.out)⟩⟩
   ·replace c10 := Bool.eq_false_iff.mpr c10
    subst c10
    have H1 : (addr_Parse.j0 k ag true) = some (r1, r2, r3) := by rw [if_neg (show ¬ (false = true) by decide)] at H; exact H
    clear H
    have H := H1
    clear H1
    have H' := Aside0.mk H
    clear H
    go_wp2
    go_meet
    case rel => exact ⟨_, (true), (by first | rfl | (simp; done) | (simp [*]; done)), H', ⟨by first | omega | exact Nat.le_refl _⟩, ⟨by (with_reducible repeat (first | apply Kd.R_alloc | apply Kd.R_drewN | apply Kd.R_drew)); exact HO165.out⟩, ⟨by (with_reducible repeat (first | refine blk_drewN ?_ _ | refine blk_drew ?_ | refine blk_alloc ?_ _)); exact aa.out⟩, ⟨by repeat (first | (with_reducible first | exact HB.out | apply below_alloc | apply pw_below_drewN | apply below_drew1 | refine below_set ?_ af.out) | exact HB.out)⟩⟩
  case rest =>
   clear HC5
   try clear c1
   try clear p2
   try clear c4
   try clear c5
   try clear c10
   try clear c11
   obtain ⟨kq, x31_4, rfl, HA, HJ4, HO_7, aa, HB⟩ := hcut
   cases kq with
   | zero => exact absurd HA.out (by simp [addr_Parse.j0])
   | succ kj4 =>
    have H := HA.out
    clear HA
    simp only [addr_Parse.j0] at H
    by_cases c12 : x31_4 = true
    ·subst c12
     have H1 : (some (0, 0, 4)) = some (r1, r2, r3) := by rw [if_pos rfl] at H; exact H
     clear H
     have H := H1
     clear H1
     simp only [Option.some.injEq, Prod.mk.injEq] at H
     obtain ⟨rfl, rfl, rfl⟩ := H
     have hcz13_0 : wc.cell? ⟨ad, 0, none⟩ = some (.int .u32 0) := (blk_cell aa.out 0).trans rfl
     have hcz13_1 : wc.cell? ⟨ad, 1, none⟩ = some (.int .i64 0) := (blk_cell aa.out 1).trans rfl
     have hfz13_0 := blk_frozen aa.out 0
     have hfz13_1 := blk_frozen aa.out 1
     go_wp2
     refine bodyPost_ret (results_ct rfl _ _ ad 24 #[.int .u32 0, .int .i64 0] (0, 0) _ rfl (by (with_reducible repeat (first | refine blk_drewN ?_ _ | refine blk_drew ?_ | refine blk_alloc ?_ _)); refine blk_put (cs := #[.int .u32 0, .int .i64 0]) ?_ 1 _ rfl; (with_reducible repeat (first | refine blk_drewN ?_ _ | refine blk_drew ?_ | refine blk_alloc ?_ _)); refine blk_put (cs := #[.int .u32 0, .int .i64 0]) ?_ 0 _ rfl; (with_reducible repeat (first | refine blk_drewN ?_ _ | refine blk_drew ?_ | refine blk_alloc ?_ _)); exact aa.out) Tryd.underlying24 rfl (by kernel_rfl)) rfl ?_
     exact ⟨by first | rfl | (simp [errW_none, errW_some] <;> rfl) | (simp [*, errW_none, errW_some] <;> rfl), by repeat (first | (with_reducible first | exact HB.out | apply below_alloc | apply pw_below_drewN | apply below_drew1 | refine below_set ?_ af.out) | exact HB.out)⟩
    ·replace c12 := Bool.eq_false_iff.mpr c12
     subst c12
     have H1 : (addr_Parse.l0 kj4 false ag (ag.length : Int) 0 0 0) = some (r1, r2, r3) := by rw [if_neg (show ¬ (false = true) by decide)] at H; exact H
     clear H
     have H := H1
     clear H1
     have H' := Aside0.mk H
     clear H
     go_wp2_with (first | ((with_reducible refine gate_dst (N := 8) rfl ?_); (try (refine gate_guard (by rfl) ?_; dsimp only)); refine box_event ?hg (N := 8) ?hd (cs := #[.int .u32 0, .int .i64 0]) (t := 24) ?hr ?_; (case hd => rfl); (case hg => rfl); (case hr => first | (go_simp; done) | (go_simp; rfl)); intro ae hg w14 hbox hb; have n0_ := Aside0.mk (Kd.R_below (by (with_reducible repeat (first | apply Kd.R_alloc | apply Kd.R_drewN | apply Kd.R_drew)); exact HO_7.out) hb); have n1_ := Aside0.mk (blk_below (g := ad) (by (with_reducible repeat (first | refine blk_drewN ?_ _ | refine blk_drew ?_ | refine blk_alloc ?_ _)); exact aa.out) hb); have n2_ := Aside0.mk (below_step (by repeat (first | (with_reducible first | exact HB.out | apply below_alloc | apply pw_below_drewN | apply below_drew1 | refine below_set ?_ af.out) | exact HB.out)) hb); have n3_ := Aside0.mk (hbox); have n4_ := Aside0.mk ((by rw [hg]; exact (below_size (by repeat (first | (with_reducible first | exact HB.out | apply below_alloc | apply pw_below_drewN | apply below_drew1 | refine below_set ?_ af.out) | exact HB.out))) : w.heap.size ≤ ae)); have n5_ := Aside0.mk ((by rw [hg]; exact (below_size (by repeat (first | (with_reducible first | exact HB.out | apply below_alloc | apply pw_below_drewN | apply below_drew1 | refine below_set ?_ af.out) | exact HB.out))) : w.heap.size ≤ ae)); have n6_ := Aside0.mk ((by rw [hg]; exact Nat.ne_of_lt (blk_lt (g := ad) (o := .cells #[.int .u32 0, .int .i64 0] 24 (0, 0)) (by (with_reducible repeat (first | refine blk_drewN ?_ _ | refine blk_drew ?_ | refine blk_alloc ?_ _)); exact aa.out)) : ad ≠ ae)); have n7_ := Aside0.mk ((by rw [hg]; exact Nat.ne_of_gt (blk_lt (g := ad) (o := .cells #[.int .u32 0, .int .i64 0] 24 (0, 0)) (by (with_reducible repeat (first | refine blk_drewN ?_ _ | refine blk_drew ?_ | refine blk_alloc ?_ _)); exact aa.out)) : ae ≠ ad)); clear HO_7; clear aa; clear HB; have HO_7 := n0_; have aa := n1_; have HB := n2_; have ab := n3_; have GW166 := n4_; have ai := n5_; have ac := n6_; have ah := n7_; clear n0_ n1_ n2_ n3_ n4_ n5_ n6_ n7_; clear hb hbox hg; have hnb15 := ah.out; have hnc15 := ac.out; have hcz16_0 : w14.cell? ⟨ae, 0, none⟩ = some (.int .u32 0) := (blk_cell ab.out 0).trans rfl; have hcz16_1 : w14.cell? ⟨ae, 1, none⟩ = some (.int .i64 0) := (blk_cell ab.out 1).trans rfl; have hfz16_0 := blk_frozen ab.out 0; have hfz16_1 := blk_frozen ab.out 1; obtain ⟨Ao17, co17, eo17⟩ := Kd.R_slice HO_7.out; subst eo17))
     go_loopg [9, 36] kj4 (fun kq v9 v36 w' => ∃ (x9_2 : Bool) (x36_2 : Int) (x157000_2 : Int) (x157001_2 : Int) (x167000_2 : Int) (x167001_2 : Int), v9 = .bool x9_2 ∧ v36 = .int .i64 x36_2 ∧ Aside0 (addr_Parse.l0 kq x9_2 ag (ag.length : Int) x36_2 x167000_2 x167001_2 = some (r1, r2, r3)) ∧ Aside0 (kq ≤ kj4) ∧ Aside0 (Kd.R Kd.string 9 w' w.heap.size (fun _ => True) (.slice Ao17 ag.length co17) ag) ∧ Aside0 (w'.heap[ad]? = some (.cells #[.int .u32 x157000_2, .int .i64 x157001_2] 24 (0, 0))) ∧ Aside0 (w'.heap[ae]? = some (.cells #[.int .u32 x167000_2, .int .i64 x167001_2] 24 (0, 0))) ∧ Aside0 (Below w.heap.size w w'))
     case atStart => exact ⟨(false), (0), (0), (0), (0), (0), (by first | rfl | (simp; done) | (simp [*]; done)), (by first | rfl | (simp; done) | (simp [*]; done)), H', ⟨Nat.le_refl _⟩, ⟨by (with_reducible repeat (first | apply Kd.R_alloc | apply Kd.R_drewN | apply Kd.R_drew)); exact Kd.R_mono (Kd.R_far (p := ⟨ae, 1, none⟩) (Kd.R_far (p := ⟨ae, 0, none⟩) (Kd.R_types HO_7.out ab.out (by decide)) (fun _ hk => hk.2) (.int .u32 0)) (fun _ hk => hk.2) (.int .i64 0)) (fun _ hk => trivial)⟩, ⟨by (with_reducible repeat (first | refine blk_drewN ?_ _ | refine blk_drew ?_ | refine blk_alloc ?_ _)); refine blk_far ?_ ac.out _; (with_reducible repeat (first | refine blk_drewN ?_ _ | refine blk_drew ?_ | refine blk_alloc ?_ _)); refine blk_far ?_ ac.out _; (with_reducible repeat (first | refine blk_drewN ?_ _ | refine blk_drew ?_ | refine blk_alloc ?_ _)); exact aa.out⟩, ⟨by (with_reducible repeat (first | refine blk_drewN ?_ _ | refine blk_drew ?_ | refine blk_alloc ?_ _)); refine blk_put (cs := #[.int .u32 0, .int .i64 0]) ?_ 1 _ rfl; (with_reducible repeat (first | refine blk_drewN ?_ _ | refine blk_drew ?_ | refine blk_alloc ?_ _)); refine blk_put (cs := #[.int .u32 0, .int .i64 0]) ?_ 0 _ rfl; (with_reducible repeat (first | refine blk_drewN ?_ _ | refine blk_drew ?_ | refine blk_alloc ?_ _)); exact ab.out⟩, ⟨by repeat (first | (with_reducible first | exact HB.out | apply below_alloc | apply pw_below_drewN | apply below_drew1 | refine below_set ?_ af.out | refine below_set ?_ ai.out) | exact HB.out)⟩⟩
     case round =>
      clear H'
      try clear c1
      try clear p2
      try clear c4
      try clear c5
      try clear c10
      try clear c11
      try clear c12
      try clear c15
      try clear hcz13_0
      try clear hcz13_1
      try clear hcz16_0
      try clear hcz16_1
      try clear hfz13_0
      try clear hfz13_1
      try clear hfz16_0
      try clear hfz16_1
      try clear p2
      obtain ⟨x9_2, x36_2, x157000_2, x157001_2, x167000_2, x167001_2, rfl, rfl, HA, HK2, HO_34, aa, ab, HB⟩ := hrel
      cases gk with
      | zero => exact absurd HA.out (by simp [addr_Parse.l0])
      | succ k2 =>
       have H := HA.out
       clear HA
       simp only [addr_Parse.l0] at H
       by_cases c18 : x36_2 < (ag.length : Int)
       ·rw [if_pos c18] at H
        have c18b0 : decide (x36_2 < (ag.length : Int)) = true := decide_eq_true c18
        clear c18
        by_cases c19 : 0 ≤ x36_2
        ·rw [if_pos c19] at H
         have c19b0 : decide (0 ≤ x36_2) = true := decide_eq_true c19
         clear c19
         by_cases c20 : x36_2 < (ag.length : Int)
         ·rw [if_pos c20] at H
          have c20b0 : decide (x36_2 < (ag.length : Int)) = true := decide_eq_true c20
          clear c20
          replace H := Option.bind_eq_some_iff.mp H
          obtain ⟨⟨t168, t169⟩, A210, H⟩ := H
          (try dsimp only at H)
          have A21 := Aside0.mk A210
          clear A210
          by_cases c22 : t169 = true
          ·subst c22
           have H1 := H
           rw [if_pos rfl] at H1
           clear H
           have H := H1
           clear H1
           by_cases c23 : x36_2 < 4
           ·rw [if_pos c23] at H
            have c23b0 : decide (x36_2 < 4) = true := decide_eq_true c23
            clear c23
            by_cases c24 : x9_2 = true
            ·subst c24
             have H1 := H
             rw [if_pos rfl] at H1
             clear H
             have H := H1
             clear H1
             have H' := Aside0.mk H
             clear H
             have p167 : 0 ≤ (x36_2 : Int) := of_decide_eq_true (by first | (with_reducible assumption) | assumption)
             have q167 : x36_2 < (ag.length : Int) := of_decide_eq_true (by first | (with_reducible assumption) | assumption)
             obtain ⟨ad167, e167, hx167_0⟩ := Kd.at_string (Kd.R_reads' HO_34.out).2.2 x36_2 p167 q167
             cases e167
             replace p167 := eq_true p167
             replace q167 := eq_true q167
             go_wp2_with (first | ((with_reducible refine gate_callee (f := 12) rfl ?_); refine goesL_ (some 43) rfl rfl Tryd.func12 (by kernel_rfl) rfl #[.string (rdOf ByteArray.empty ag x36_2)] rfl (by (try simp only [List.map_toArray, List.map_cons, List.map_nil]); first | done | rfl) ?_; (with_reducible refine (addr_number.calls (rdOf ByteArray.empty ag x36_2) t168 true _ A21.out).mono ?_); rintro e w25 ⟨rfl, hb⟩; refine ⟨_, rfl, ?_⟩; replace HO_34 := Aside0.mk (Kd.R_below (by (with_reducible repeat (first | apply Kd.R_alloc | apply Kd.R_drewN | apply Kd.R_drew)); exact HO_34.out) hb); replace aa := Aside0.mk (blk_below (g := ad) (by (with_reducible repeat (first | refine blk_drewN ?_ _ | refine blk_drew ?_ | refine blk_alloc ?_ _)); exact aa.out) hb); replace ab := Aside0.mk (blk_below (g := ae) (by (with_reducible repeat (first | refine blk_drewN ?_ _ | refine blk_drew ?_ | refine blk_alloc ?_ _)); exact ab.out) hb); replace HB := Aside0.mk (below_step (by repeat (first | (with_reducible first | exact HB.out | apply below_alloc | apply pw_below_drewN | apply below_drew1 | refine below_set ?_ af.out | refine below_set ?_ ai.out) | exact HB.out)) hb); (try clear hb); (try clear aj); (try clear hk); (try clear hi); have hnb26 := ah.out; have hnc26 := ac.out; have hcz27_0 : w25.cell? ⟨ae, 0, none⟩ = some (.int .u32 x167000_2) := (blk_cell ab.out 0).trans rfl; have hcz27_1 : w25.cell? ⟨ae, 1, none⟩ = some (.int .i64 x167001_2) := (blk_cell ab.out 1).trans rfl; have hfz27_0 := blk_frozen ab.out 0; have hfz27_1 := blk_frozen ab.out 1))
             go_roundg k2
             case measure => have := HJ4.out; have := HK2.out; omega
             case rel => exact ⟨(true), (wrap64 (x36_2 + 1)), (x157000_2), (x157001_2), (Go.bits .or .u32 ((x167000_2 * 256) % 4294967296) ((t168) % 4294967296)), (x167001_2), (by first | rfl | (simp; done) | (simp [*]; done)), (by first | rfl | (simp; done) | (simp [*]; done)), H', ⟨by have := HJ4.out; have := HK2.out; omega⟩, ⟨by (with_reducible repeat (first | apply Kd.R_alloc | apply Kd.R_drewN | apply Kd.R_drew)); exact Kd.R_mono (Kd.R_far (p := ⟨ae, 0, none⟩) (Kd.R_types HO_34.out ab.out (by decide)) (fun _ hk => hk.2) (.int .u32 (Go.bits .or .u32 ((x167000_2 * 256) % 4294967296) ((t168) % 4294967296)))) (fun _ hk => trivial)⟩, ⟨by (with_reducible repeat (first | refine blk_drewN ?_ _ | refine blk_drew ?_ | refine blk_alloc ?_ _)); refine blk_far ?_ ac.out _; (with_reducible repeat (first | refine blk_drewN ?_ _ | refine blk_drew ?_ | refine blk_alloc ?_ _)); exact aa.out⟩, ⟨by (with_reducible repeat (first | refine blk_drewN ?_ _ | refine blk_drew ?_ | refine blk_alloc ?_ _)); refine blk_put (cs := #[.int .u32 x167000_2, .int .i64 x167001_2]) ?_ 0 _ rfl; (with_reducible repeat (first | refine blk_drewN ?_ _ | refine blk_drew ?_ | refine blk_alloc ?_ _)); exact ab.out⟩, ⟨by repeat (first | (with_reducible first | exact HB.out | apply below_alloc | apply pw_below_drewN | apply below_drew1 | refine below_set ?_ af.out | refine below_set ?_ ai.out) | exact HB.out)⟩⟩
            ·replace c24 := Bool.eq_false_iff.mpr c24
             subst c24
             have H1 := H
             rw [if_neg (show ¬ (false = true) by decide)] at H1
             clear H
             have H := H1
             clear H1
             have H' := Aside0.mk H
             clear H
             have p167 : 0 ≤ (x36_2 : Int) := of_decide_eq_true (by first | (with_reducible assumption) | assumption)
             have q167 : x36_2 < (ag.length : Int) := of_decide_eq_true (by first | (with_reducible assumption) | assumption)
             obtain ⟨ad167, e167, hx167_0⟩ := Kd.at_string (Kd.R_reads' HO_34.out).2.2 x36_2 p167 q167
             cases e167
             replace p167 := eq_true p167
             replace q167 := eq_true q167
             go_wp2_with (first | ((with_reducible refine gate_callee (f := 12) rfl ?_); refine goesL_ (some 43) rfl rfl Tryd.func12 (by kernel_rfl) rfl #[.string (rdOf ByteArray.empty ag x36_2)] rfl (by (try simp only [List.map_toArray, List.map_cons, List.map_nil]); first | done | rfl) ?_; (with_reducible refine (addr_number.calls (rdOf ByteArray.empty ag x36_2) t168 true _ A21.out).mono ?_); rintro e w28 ⟨rfl, hb⟩; refine ⟨_, rfl, ?_⟩; replace HO_34 := Aside0.mk (Kd.R_below (by (with_reducible repeat (first | apply Kd.R_alloc | apply Kd.R_drewN | apply Kd.R_drew)); exact HO_34.out) hb); replace aa := Aside0.mk (blk_below (g := ad) (by (with_reducible repeat (first | refine blk_drewN ?_ _ | refine blk_drew ?_ | refine blk_alloc ?_ _)); exact aa.out) hb); replace ab := Aside0.mk (blk_below (g := ae) (by (with_reducible repeat (first | refine blk_drewN ?_ _ | refine blk_drew ?_ | refine blk_alloc ?_ _)); exact ab.out) hb); replace HB := Aside0.mk (below_step (by repeat (first | (with_reducible first | exact HB.out | apply below_alloc | apply pw_below_drewN | apply below_drew1 | refine below_set ?_ af.out | refine below_set ?_ ai.out) | exact HB.out)) hb); (try clear hb); (try clear aj); (try clear hk); (try clear hi); have hnb29 := ah.out; have hnc29 := ac.out; have hcz30_0 : w28.cell? ⟨ae, 0, none⟩ = some (.int .u32 x167000_2) := (blk_cell ab.out 0).trans rfl; have hcz30_1 : w28.cell? ⟨ae, 1, none⟩ = some (.int .i64 x167001_2) := (blk_cell ab.out 1).trans rfl; have hfz30_0 := blk_frozen ab.out 0; have hfz30_1 := blk_frozen ab.out 1))
             go_roundg k2
             case measure => have := HJ4.out; have := HK2.out; omega
             case rel => exact ⟨(decide (t168 > 255)), (wrap64 (x36_2 + 1)), (x157000_2), (x157001_2), (Go.bits .or .u32 ((x167000_2 * 256) % 4294967296) ((t168) % 4294967296)), (x167001_2), (by first | rfl | (simp; done) | (simp [*]; done)), (by first | rfl | (simp; done) | (simp [*]; done)), H', ⟨by have := HJ4.out; have := HK2.out; omega⟩, ⟨by (with_reducible repeat (first | apply Kd.R_alloc | apply Kd.R_drewN | apply Kd.R_drew)); exact Kd.R_mono (Kd.R_far (p := ⟨ae, 0, none⟩) (Kd.R_types HO_34.out ab.out (by decide)) (fun _ hk => hk.2) (.int .u32 (Go.bits .or .u32 ((x167000_2 * 256) % 4294967296) ((t168) % 4294967296)))) (fun _ hk => trivial)⟩, ⟨by (with_reducible repeat (first | refine blk_drewN ?_ _ | refine blk_drew ?_ | refine blk_alloc ?_ _)); refine blk_far ?_ ac.out _; (with_reducible repeat (first | refine blk_drewN ?_ _ | refine blk_drew ?_ | refine blk_alloc ?_ _)); exact aa.out⟩, ⟨by (with_reducible repeat (first | refine blk_drewN ?_ _ | refine blk_drew ?_ | refine blk_alloc ?_ _)); refine blk_put (cs := #[.int .u32 x167000_2, .int .i64 x167001_2]) ?_ 0 _ rfl; (with_reducible repeat (first | refine blk_drewN ?_ _ | refine blk_drew ?_ | refine blk_alloc ?_ _)); exact ab.out⟩, ⟨by repeat (first | (with_reducible first | exact HB.out | apply below_alloc | apply pw_below_drewN | apply below_drew1 | refine below_set ?_ af.out | refine below_set ?_ ai.out) | exact HB.out)⟩⟩
           ·rw [if_neg c23] at H
            have c23b0 : decide (x36_2 < 4) = false := decide_eq_false c23
            clear c23
            by_cases c31 : x9_2 = true
            ·subst c31
             have H1 : (addr_Parse.l0 k2 true ag (ag.length : Int) (wrap64 (x36_2 + 1)) x167000_2 t168) = some (r1, r2, r3) := by rw [if_pos rfl] at H; exact H
             clear H
             have H := H1
             clear H1
             have H' := Aside0.mk H
             clear H
             have p167 : 0 ≤ (x36_2 : Int) := of_decide_eq_true (by first | (with_reducible assumption) | assumption)
             have q167 : x36_2 < (ag.length : Int) := of_decide_eq_true (by first | (with_reducible assumption) | assumption)
             obtain ⟨ad167, e167, hx167_0⟩ := Kd.at_string (Kd.R_reads' HO_34.out).2.2 x36_2 p167 q167
             cases e167
             replace p167 := eq_true p167
             replace q167 := eq_true q167
             go_wp2_with (first | ((with_reducible refine gate_callee (f := 12) rfl ?_); refine goesL_ (some 43) rfl rfl Tryd.func12 (by kernel_rfl) rfl #[.string (rdOf ByteArray.empty ag x36_2)] rfl (by (try simp only [List.map_toArray, List.map_cons, List.map_nil]); first | done | rfl) ?_; (with_reducible refine (addr_number.calls (rdOf ByteArray.empty ag x36_2) t168 true _ A21.out).mono ?_); rintro e w32 ⟨rfl, hb⟩; refine ⟨_, rfl, ?_⟩; replace HO_34 := Aside0.mk (Kd.R_below (by (with_reducible repeat (first | apply Kd.R_alloc | apply Kd.R_drewN | apply Kd.R_drew)); exact HO_34.out) hb); replace aa := Aside0.mk (blk_below (g := ad) (by (with_reducible repeat (first | refine blk_drewN ?_ _ | refine blk_drew ?_ | refine blk_alloc ?_ _)); exact aa.out) hb); replace ab := Aside0.mk (blk_below (g := ae) (by (with_reducible repeat (first | refine blk_drewN ?_ _ | refine blk_drew ?_ | refine blk_alloc ?_ _)); exact ab.out) hb); replace HB := Aside0.mk (below_step (by repeat (first | (with_reducible first | exact HB.out | apply below_alloc | apply pw_below_drewN | apply below_drew1 | refine below_set ?_ af.out | refine below_set ?_ ai.out) | exact HB.out)) hb); (try clear hb); (try clear aj); (try clear hk); (try clear hi); have hnb33 := ah.out; have hnc33 := ac.out; have hcz34_0 : w32.cell? ⟨ae, 0, none⟩ = some (.int .u32 x167000_2) := (blk_cell ab.out 0).trans rfl; have hcz34_1 : w32.cell? ⟨ae, 1, none⟩ = some (.int .i64 x167001_2) := (blk_cell ab.out 1).trans rfl; have hfz34_0 := blk_frozen ab.out 0; have hfz34_1 := blk_frozen ab.out 1))
             go_roundg k2
             case measure => have := HJ4.out; have := HK2.out; omega
             case rel => exact ⟨(true), (wrap64 (x36_2 + 1)), (x157000_2), (x157001_2), (x167000_2), (t168), (by first | rfl | (simp; done) | (simp [*]; done)), (by first | rfl | (simp; done) | (simp [*]; done)), H', ⟨by have := HJ4.out; have := HK2.out; omega⟩, ⟨by (with_reducible repeat (first | apply Kd.R_alloc | apply Kd.R_drewN | apply Kd.R_drew)); exact Kd.R_mono (Kd.R_far (p := ⟨ae, 1, none⟩) (Kd.R_types HO_34.out ab.out (by decide)) (fun _ hk => hk.2) (.int .i64 t168)) (fun _ hk => trivial)⟩, ⟨by (with_reducible repeat (first | refine blk_drewN ?_ _ | refine blk_drew ?_ | refine blk_alloc ?_ _)); refine blk_far ?_ ac.out _; (with_reducible repeat (first | refine blk_drewN ?_ _ | refine blk_drew ?_ | refine blk_alloc ?_ _)); exact aa.out⟩, ⟨by (with_reducible repeat (first | refine blk_drewN ?_ _ | refine blk_drew ?_ | refine blk_alloc ?_ _)); refine blk_put (cs := #[.int .u32 x167000_2, .int .i64 x167001_2]) ?_ 1 _ rfl; (with_reducible repeat (first | refine blk_drewN ?_ _ | refine blk_drew ?_ | refine blk_alloc ?_ _)); exact ab.out⟩, ⟨by repeat (first | (with_reducible first | exact HB.out | apply below_alloc | apply pw_below_drewN | apply below_drew1 | refine below_set ?_ af.out | refine below_set ?_ ai.out) | exact HB.out)⟩⟩
            ·replace c31 := Bool.eq_false_iff.mpr c31
             subst c31
             have H1 : (addr_Parse.l0 k2 (decide (t168 > 32)) ag (ag.length : Int) (wrap64 (x36_2 + 1)) x167000_2 t168) = some (r1, r2, r3) := by rw [if_neg (show ¬ (false = true) by decide)] at H; exact H
             clear H
             have H := H1
             clear H1
             have H' := Aside0.mk H
             clear H
             have p167 : 0 ≤ (x36_2 : Int) := of_decide_eq_true (by first | (with_reducible assumption) | assumption)
             have q167 : x36_2 < (ag.length : Int) := of_decide_eq_true (by first | (with_reducible assumption) | assumption)
             obtain ⟨ad167, e167, hx167_0⟩ := Kd.at_string (Kd.R_reads' HO_34.out).2.2 x36_2 p167 q167
             cases e167
             replace p167 := eq_true p167
             replace q167 := eq_true q167
             go_wp2_with (first | ((with_reducible refine gate_callee (f := 12) rfl ?_); refine goesL_ (some 43) rfl rfl Tryd.func12 (by kernel_rfl) rfl #[.string (rdOf ByteArray.empty ag x36_2)] rfl (by (try simp only [List.map_toArray, List.map_cons, List.map_nil]); first | done | rfl) ?_; (with_reducible refine (addr_number.calls (rdOf ByteArray.empty ag x36_2) t168 true _ A21.out).mono ?_); rintro e w35 ⟨rfl, hb⟩; refine ⟨_, rfl, ?_⟩; replace HO_34 := Aside0.mk (Kd.R_below (by (with_reducible repeat (first | apply Kd.R_alloc | apply Kd.R_drewN | apply Kd.R_drew)); exact HO_34.out) hb); replace aa := Aside0.mk (blk_below (g := ad) (by (with_reducible repeat (first | refine blk_drewN ?_ _ | refine blk_drew ?_ | refine blk_alloc ?_ _)); exact aa.out) hb); replace ab := Aside0.mk (blk_below (g := ae) (by (with_reducible repeat (first | refine blk_drewN ?_ _ | refine blk_drew ?_ | refine blk_alloc ?_ _)); exact ab.out) hb); replace HB := Aside0.mk (below_step (by repeat (first | (with_reducible first | exact HB.out | apply below_alloc | apply pw_below_drewN | apply below_drew1 | refine below_set ?_ af.out | refine below_set ?_ ai.out) | exact HB.out)) hb); (try clear hb); (try clear aj); (try clear hk); (try clear hi); have hnb36 := ah.out; have hnc36 := ac.out; have hcz37_0 : w35.cell? ⟨ae, 0, none⟩ = some (.int .u32 x167000_2) := (blk_cell ab.out 0).trans rfl; have hcz37_1 : w35.cell? ⟨ae, 1, none⟩ = some (.int .i64 x167001_2) := (blk_cell ab.out 1).trans rfl; have hfz37_0 := blk_frozen ab.out 0; have hfz37_1 := blk_frozen ab.out 1))
             go_roundg k2
             case measure => have := HJ4.out; have := HK2.out; omega
             case rel => exact ⟨(decide (t168 > 32)), (wrap64 (x36_2 + 1)), (x157000_2), (x157001_2), (x167000_2), (t168), (by first | rfl | (simp; done) | (simp [*]; done)), (by first | rfl | (simp; done) | (simp [*]; done)), H', ⟨by have := HJ4.out; have := HK2.out; omega⟩, ⟨by (with_reducible repeat (first | apply Kd.R_alloc | apply Kd.R_drewN | apply Kd.R_drew)); exact Kd.R_mono (Kd.R_far (p := ⟨ae, 1, none⟩) (Kd.R_types HO_34.out ab.out (by decide)) (fun _ hk => hk.2) (.int .i64 t168)) (fun _ hk => trivial)⟩, ⟨by (with_reducible repeat (first | refine blk_drewN ?_ _ | refine blk_drew ?_ | refine blk_alloc ?_ _)); refine blk_far ?_ ac.out _; (with_reducible repeat (first | refine blk_drewN ?_ _ | refine blk_drew ?_ | refine blk_alloc ?_ _)); exact aa.out⟩, ⟨by (with_reducible repeat (first | refine blk_drewN ?_ _ | refine blk_drew ?_ | refine blk_alloc ?_ _)); refine blk_put (cs := #[.int .u32 x167000_2, .int .i64 x167001_2]) ?_ 1 _ rfl; (with_reducible repeat (first | refine blk_drewN ?_ _ | refine blk_drew ?_ | refine blk_alloc ?_ _)); exact ab.out⟩, ⟨by repeat (first | (with_reducible first | exact HB.out | apply below_alloc | apply pw_below_drewN | apply below_drew1 | refine below_set ?_ af.out | refine below_set ?_ ai.out) | exact HB.out)⟩⟩
          ·replace c22 := Bool.eq_false_iff.mpr c22
           subst c22
           have H1 : (some (0, 0, 4)) = some (r1, r2, r3) := by rw [if_neg (show ¬ (false = true) by decide)] at H; exact H
           clear H
           have H := H1
           clear H1
           simp only [Option.some.injEq, Prod.mk.injEq] at H
           obtain ⟨rfl, rfl, rfl⟩ := H
           have p167 : 0 ≤ (x36_2 : Int) := of_decide_eq_true (by first | (with_reducible assumption) | assumption)
           have q167 : x36_2 < (ag.length : Int) := of_decide_eq_true (by first | (with_reducible assumption) | assumption)
           obtain ⟨ad167, e167, hx167_0⟩ := Kd.at_string (Kd.R_reads' HO_34.out).2.2 x36_2 p167 q167
           cases e167
           replace p167 := eq_true p167
           replace q167 := eq_true q167
           go_wp2_with (first | ((with_reducible refine gate_callee (f := 12) rfl ?_); refine goesL_ (some 43) rfl rfl Tryd.func12 (by kernel_rfl) rfl #[.string (rdOf ByteArray.empty ag x36_2)] rfl (by (try simp only [List.map_toArray, List.map_cons, List.map_nil]); first | done | rfl) ?_; (with_reducible refine (addr_number.calls (rdOf ByteArray.empty ag x36_2) t168 false _ A21.out).mono ?_); rintro e w38 ⟨rfl, hb⟩; refine ⟨_, rfl, ?_⟩; replace HO_34 := Aside0.mk (Kd.R_below (by (with_reducible repeat (first | apply Kd.R_alloc | apply Kd.R_drewN | apply Kd.R_drew)); exact HO_34.out) hb); replace aa := Aside0.mk (blk_below (g := ad) (by (with_reducible repeat (first | refine blk_drewN ?_ _ | refine blk_drew ?_ | refine blk_alloc ?_ _)); exact aa.out) hb); replace ab := Aside0.mk (blk_below (g := ae) (by (with_reducible repeat (first | refine blk_drewN ?_ _ | refine blk_drew ?_ | refine blk_alloc ?_ _)); exact ab.out) hb); replace HB := Aside0.mk (below_step (by repeat (first | (with_reducible first | exact HB.out | apply below_alloc | apply pw_below_drewN | apply below_drew1 | refine below_set ?_ af.out | refine below_set ?_ ai.out) | exact HB.out)) hb); (try clear hb); (try clear aj); (try clear hk); (try clear hi); have hnb39 := ac.out; have hnc39 := ah.out; have hcz40_0 : w38.cell? ⟨ad, 0, none⟩ = some (.int .u32 x157000_2) := (blk_cell aa.out 0).trans rfl; have hcz40_1 : w38.cell? ⟨ad, 1, none⟩ = some (.int .i64 x157001_2) := (blk_cell aa.out 1).trans rfl; have hfz40_0 := blk_frozen aa.out 0; have hfz40_1 := blk_frozen aa.out 1))
           refine bodyPost_ret (results_ct rfl _ _ ad 24 #[.int .u32 0, .int .i64 0] (0, 0) _ rfl (by (with_reducible repeat (first | refine blk_drewN ?_ _ | refine blk_drew ?_ | refine blk_alloc ?_ _)); refine blk_put (cs := #[.int .u32 0, .int .i64 x157001_2]) ?_ 1 _ rfl; (with_reducible repeat (first | refine blk_drewN ?_ _ | refine blk_drew ?_ | refine blk_alloc ?_ _)); refine blk_put (cs := #[.int .u32 x157000_2, .int .i64 x157001_2]) ?_ 0 _ rfl; (with_reducible repeat (first | refine blk_drewN ?_ _ | refine blk_drew ?_ | refine blk_alloc ?_ _)); exact aa.out) Tryd.underlying24 rfl (by kernel_rfl)) rfl ?_
           exact ⟨by first | rfl | (simp [errW_none, errW_some] <;> rfl) | (simp [*, errW_none, errW_some] <;> rfl), by repeat (first | (with_reducible first | exact HB.out | apply below_alloc | apply pw_below_drewN | apply below_drew1 | refine below_set ?_ af.out | refine below_set ?_ ai.out) | exact HB.out)⟩
         ·rw [if_neg c20] at H
          exact absurd H (by simp)
        ·rw [if_neg c19] at H
         exact absurd H (by simp)
       ·rw [if_neg c18] at H
        have c18b0 : decide (x36_2 < (ag.length : Int)) = false := decide_eq_false c18
        clear c18
        by_cases c41 : x9_2 = true
        ·subst c41
         have H1 : (some (0, 0, 7)) = some (r1, r2, r3) := by rw [if_pos rfl] at H; exact H
         clear H
         have H := H1
         clear H1
         simp only [Option.some.injEq, Prod.mk.injEq] at H
         obtain ⟨rfl, rfl, rfl⟩ := H
         have hnb42 := ac.out
         have hnc42 := ah.out
         have hcz43_0 : wr.cell? ⟨ad, 0, none⟩ = some (.int .u32 x157000_2) := (blk_cell aa.out 0).trans rfl
         have hcz43_1 : wr.cell? ⟨ad, 1, none⟩ = some (.int .i64 x157001_2) := (blk_cell aa.out 1).trans rfl
         have hfz43_0 := blk_frozen aa.out 0
         have hfz43_1 := blk_frozen aa.out 1
         go_wp2
         refine bodyPost_ret (results_ct rfl _ _ ad 24 #[.int .u32 0, .int .i64 0] (0, 0) _ rfl (by (with_reducible repeat (first | refine blk_drewN ?_ _ | refine blk_drew ?_ | refine blk_alloc ?_ _)); refine blk_put (cs := #[.int .u32 0, .int .i64 x157001_2]) ?_ 1 _ rfl; (with_reducible repeat (first | refine blk_drewN ?_ _ | refine blk_drew ?_ | refine blk_alloc ?_ _)); refine blk_put (cs := #[.int .u32 x157000_2, .int .i64 x157001_2]) ?_ 0 _ rfl; (with_reducible repeat (first | refine blk_drewN ?_ _ | refine blk_drew ?_ | refine blk_alloc ?_ _)); exact aa.out) Tryd.underlying24 rfl (by kernel_rfl)) rfl ?_
         exact ⟨by first | rfl | (simp [errW_none, errW_some] <;> rfl) | (simp [*, errW_none, errW_some] <;> rfl), by repeat (first | (with_reducible first | exact HB.out | apply below_alloc | apply pw_below_drewN | apply below_drew1 | refine below_set ?_ af.out | refine below_set ?_ ai.out) | exact HB.out)⟩
        ·replace c41 := Bool.eq_false_iff.mpr c41
         subst c41
         have H1 := H
         rw [if_neg (show ¬ (false = true) by decide)] at H1
         clear H
         have H := H1
         clear H1
         replace H := Option.bind_eq_some_iff.mp H
         obtain ⟨t170, A440, H⟩ := H
         replace H : (if t170 = true then (some (x167000_2, x167001_2, 0)) else (some (0, 0, 1))) = some (r1, r2, r3) := H
         have A44 := Aside0.mk A440
         clear A440
         by_cases c45 : t170 = true
         ·subst c45
          have H1 : (some (x167000_2, x167001_2, 0)) = some (r1, r2, r3) := by rw [if_pos rfl] at H; exact H
          clear H
          have H := H1
          clear H1
          simp only [Option.some.injEq, Prod.mk.injEq] at H
          obtain ⟨rfl, rfl, rfl⟩ := H
          have hnb46 := ah.out
          have hnc46 := ac.out
          have hcz47_0 : wr.cell? ⟨ae, 0, none⟩ = some (.int .u32 x167000_2) := (blk_cell ab.out 0).trans rfl
          have hcz47_1 : wr.cell? ⟨ae, 1, none⟩ = some (.int .i64 x167001_2) := (blk_cell ab.out 1).trans rfl
          have hfz47_0 := blk_frozen ab.out 0
          have hfz47_1 := blk_frozen ab.out 1
          go_wp2_with (first | ((with_reducible refine gate_callee (f := 7) rfl ?_); refine goesL_ (some 74) rfl rfl Tryd.func7 (by kernel_rfl) rfl #[.agg #[.int .u32 x167000_2, .int .i64 x167001_2]] rfl (by (try simp only [List.map_toArray, List.map_cons, List.map_nil]); first | done | rfl) ?_; (with_reducible refine (addr_May.calls x167000_2 x167001_2 true _ A44.out).mono ?_); rintro e w48 ⟨rfl, hb⟩; refine ⟨_, rfl, ?_⟩; replace HO_34 := Aside0.mk (Kd.R_below (by (with_reducible repeat (first | apply Kd.R_alloc | apply Kd.R_drewN | apply Kd.R_drew)); exact HO_34.out) hb); replace aa := Aside0.mk (blk_below (g := ad) (by (with_reducible repeat (first | refine blk_drewN ?_ _ | refine blk_drew ?_ | refine blk_alloc ?_ _)); exact aa.out) hb); replace ab := Aside0.mk (blk_below (g := ae) (by (with_reducible repeat (first | refine blk_drewN ?_ _ | refine blk_drew ?_ | refine blk_alloc ?_ _)); exact ab.out) hb); replace HB := Aside0.mk (below_step (by repeat (first | (with_reducible first | exact HB.out | apply below_alloc | apply pw_below_drewN | apply below_drew1 | refine below_set ?_ af.out | refine below_set ?_ ai.out) | exact HB.out)) hb); (try clear hb); (try clear aj); (try clear hk); (try clear hi); have hcz49_0 : w48.cell? ⟨ae, 0, none⟩ = some (.int .u32 x167000_2) := (blk_cell ab.out 0).trans rfl; have hcz49_1 : w48.cell? ⟨ae, 1, none⟩ = some (.int .i64 x167001_2) := (blk_cell ab.out 1).trans rfl; have hfz49_0 := blk_frozen ab.out 0; have hfz49_1 := blk_frozen ab.out 1; have hcz50_0 : w48.cell? ⟨ad, 0, none⟩ = some (.int .u32 x157000_2) := (blk_cell aa.out 0).trans rfl; have hcz50_1 : w48.cell? ⟨ad, 1, none⟩ = some (.int .i64 x157001_2) := (blk_cell aa.out 1).trans rfl; have hfz50_0 := blk_frozen aa.out 0; have hfz50_1 := blk_frozen aa.out 1))
          refine bodyPost_ret (results_ct rfl _ _ ad 24 #[.int .u32 x167000_2, .int .i64 x167001_2] (0, 0) _ rfl (by (with_reducible repeat (first | refine blk_drewN ?_ _ | refine blk_drew ?_ | refine blk_alloc ?_ _)); refine blk_put (cs := #[.int .u32 x167000_2, .int .i64 x157001_2]) ?_ 1 _ rfl; (with_reducible repeat (first | refine blk_drewN ?_ _ | refine blk_drew ?_ | refine blk_alloc ?_ _)); refine blk_put (cs := #[.int .u32 x157000_2, .int .i64 x157001_2]) ?_ 0 _ rfl; (with_reducible repeat (first | refine blk_drewN ?_ _ | refine blk_drew ?_ | refine blk_alloc ?_ _)); exact aa.out) Tryd.underlying24 rfl (by kernel_rfl)) rfl ?_
          exact ⟨by first | rfl | (simp [errW_none, errW_some] <;> rfl) | (simp [*, errW_none, errW_some] <;> rfl), by repeat (first | (with_reducible first | exact HB.out | apply below_alloc | apply pw_below_drewN | apply below_drew1 | refine below_set ?_ af.out | refine below_set ?_ ai.out) | exact HB.out)⟩
         ·replace c45 := Bool.eq_false_iff.mpr c45
          subst c45
          have H1 : (some (0, 0, 1)) = some (r1, r2, r3) := by rw [if_neg (show ¬ (false = true) by decide)] at H; exact H
          clear H
          have H := H1
          clear H1
          simp only [Option.some.injEq, Prod.mk.injEq] at H
          obtain ⟨rfl, rfl, rfl⟩ := H
          have hnb51 := ah.out
          have hnc51 := ac.out
          have hcz52_0 : wr.cell? ⟨ae, 0, none⟩ = some (.int .u32 x167000_2) := (blk_cell ab.out 0).trans rfl
          have hcz52_1 : wr.cell? ⟨ae, 1, none⟩ = some (.int .i64 x167001_2) := (blk_cell ab.out 1).trans rfl
          have hfz52_0 := blk_frozen ab.out 0
          have hfz52_1 := blk_frozen ab.out 1
          go_wp2_with (first | ((with_reducible refine gate_callee (f := 7) rfl ?_); refine goesL_ (some 74) rfl rfl Tryd.func7 (by kernel_rfl) rfl #[.agg #[.int .u32 x167000_2, .int .i64 x167001_2]] rfl (by (try simp only [List.map_toArray, List.map_cons, List.map_nil]); first | done | rfl) ?_; (with_reducible refine (addr_May.calls x167000_2 x167001_2 false _ A44.out).mono ?_); rintro e w53 ⟨rfl, hb⟩; refine ⟨_, rfl, ?_⟩; replace HO_34 := Aside0.mk (Kd.R_below (by (with_reducible repeat (first | apply Kd.R_alloc | apply Kd.R_drewN | apply Kd.R_drew)); exact HO_34.out) hb); replace aa := Aside0.mk (blk_below (g := ad) (by (with_reducible repeat (first | refine blk_drewN ?_ _ | refine blk_drew ?_ | refine blk_alloc ?_ _)); exact aa.out) hb); replace ab := Aside0.mk (blk_below (g := ae) (by (with_reducible repeat (first | refine blk_drewN ?_ _ | refine blk_drew ?_ | refine blk_alloc ?_ _)); exact ab.out) hb); replace HB := Aside0.mk (below_step (by repeat (first | (with_reducible first | exact HB.out | apply below_alloc | apply pw_below_drewN | apply below_drew1 | refine below_set ?_ af.out | refine below_set ?_ ai.out) | exact HB.out)) hb); (try clear hb); (try clear aj); (try clear hk); (try clear hi); have hcz54_0 : w53.cell? ⟨ad, 0, none⟩ = some (.int .u32 x157000_2) := (blk_cell aa.out 0).trans rfl; have hcz54_1 : w53.cell? ⟨ad, 1, none⟩ = some (.int .i64 x157001_2) := (blk_cell aa.out 1).trans rfl; have hfz54_0 := blk_frozen aa.out 0; have hfz54_1 := blk_frozen aa.out 1))
          refine bodyPost_ret (results_ct rfl _ _ ad 24 #[.int .u32 0, .int .i64 0] (0, 0) _ rfl (by (with_reducible repeat (first | refine blk_drewN ?_ _ | refine blk_drew ?_ | refine blk_alloc ?_ _)); refine blk_put (cs := #[.int .u32 0, .int .i64 x157001_2]) ?_ 1 _ rfl; (with_reducible repeat (first | refine blk_drewN ?_ _ | refine blk_drew ?_ | refine blk_alloc ?_ _)); refine blk_put (cs := #[.int .u32 x157000_2, .int .i64 x157001_2]) ?_ 0 _ rfl; (with_reducible repeat (first | refine blk_drewN ?_ _ | refine blk_drew ?_ | refine blk_alloc ?_ _)); exact aa.out) Tryd.underlying24 rfl (by kernel_rfl)) rfl ?_
          exact ⟨by first | rfl | (simp [errW_none, errW_some] <;> rfl) | (simp [*, errW_none, errW_some] <;> rfl), by repeat (first | (with_reducible first | exact HB.out | apply below_alloc | apply pw_below_drewN | apply below_drew1 | refine below_set ?_ af.out | refine below_set ?_ ai.out) | exact HB.out)⟩
 ·rw [if_neg c4] at H
  exact absurd H (by simp)

end Go.Proofs.YtckffheolnmcnabDoor.P

end
