/- Printed by this session's own program (wip/tools/pr.py) out of the translation: functions of the program as plain Lean functions, and that the program's calls come to what these say. -/
import Derived.Test.YtikjfonedddlpaaPx0
import Derived.Test.YtikjfonedddlpaaDigP
namespace Go.Proofs.Ytikjfonedddlpaa.P
open Go.RowKit Go.Proofs.YtikjfonedddlpaaW.PrintWords Go.Proofs.YtikjfonedddlpaaW.PrintLast Go.Proofs.YtikjfonedddlpaaW.PrintMore
attribute [local go_sem] max2_int min2_int max_two min_two max_three min_three max_four min_four   -- for this text's walks alone
set_option linter.unusedVariables false
set_option linter.unusedSimpArgs false

/-! ### comm_digits: function 37 -/
-- EXT Derived.Test.YtikjfonedddlpaaDigP
def comm_digits.f (a0 : Int) : Option ByteArray := if 0 ≤ a0 ∧ a0 ≤ 1152921504606846976 then some ⟨(dig a0.toNat).toArray⟩ else none
set_option maxHeartbeats 400000 in
set_option maxRecDepth 100000 in
theorem comm_digits.any : ∀ (n : Nat), n ≤ 1152921504606846976 → ∀ w : World,
    Calls Try.prog 37 #[.int .i64 n] w fun e w' => e = .returned (.string ⟨(dig n).toArray⟩) ∧ Below w.heap.size w w' := by
  intro n
  induction n using Nat.strongRecOn with
  | _ n ih =>
  intro hn w
  go_enter Try.func37, Try.ntmps37
  by_cases h10 : n < 10
  · have q1 : decide ((n : Int) < 10) = true := decide_eq_true (by omega)
    have e1 : IntKind.i64.wrap (48 + (n : Int)) = 48 + n := IntWalk.i64_in _ (by omega)
    obtain ⟨D, hD⟩ : ∃ D, D = dig n := ⟨_, rfl⟩
    have hcv : ∀ W : World, W.cell? ⟨w.heap.size, 0, none⟩ = some (.int .u8 (48 + (n : Int))) → (convert 63 9 (.slice (some ⟨w.heap.size, 0, none⟩) 1 1)).run Try.prog W = .ok (.string ⟨D.toArray⟩) W := fun W h => by
      rw [conv1 W _ 1 _ h, byte_dig n h10, hD, dig_small n h10]
    go_wp2_with fail
    go_ret
    subst hD
    exact ⟨rfl, (Below.refl _ _).alloc (by omega) _⟩
  · have q1 : decide ((n : Int) < 10) = false := decide_eq_false (by omega)
    have e0 : (10 : Int) ≠ 0 := by decide
    have e1 : IntKind.i64.wrap ((n : Int) / 10) = ((n / 10 : Nat) : Int) := by rw [IntWalk.i64_in _ (by omega)]; omega
    have e2 : IntKind.i64.wrap (48 + ((n % 10 : Nat) : Int)) = 48 + ((n % 10 : Nat) : Int) := IntWalk.i64_in _ (by omega)
    have e3 : (n : Int) % 10 = ((n % 10 : Nat) : Int) := by omega
    have e8 : (n : Int).tmod 10 = ((n % 10 : Nat) : Int) := by rw [Int.tmod_eq_emod_of_nonneg (by omega)]; omega
    have e5 : (n : Int) / 10 = ((n / 10 : Nat) : Int) := by omega
    have e6 : IntKind.u8.wrap (48 + ((n % 10 : Nat) : Int)) = 48 + ((n % 10 : Nat) : Int) := by unfold IntKind.wrap; simp [IntKind.bits, IntKind.signed]; omega
    obtain ⟨q, hq⟩ : ∃ q, q = n / 10 := ⟨_, rfl⟩
    obtain ⟨r, hr⟩ : ∃ r, r = n % 10 := ⟨_, rfl⟩
    rw [← hq] at e1 e5
    rw [← hr] at e2 e3 e6 e8
    obtain ⟨D, hD⟩ : ∃ D : UInt8, D = 48 + UInt8.ofNat r := ⟨_, rfl⟩
    have hcv : ∀ (W : World) (g : Nat), W.cell? ⟨g, 0, none⟩ = some (.int .u8 (48 + (r : Int))) → (convert 63 9 (.slice (some ⟨g, 0, none⟩) 1 1)).run Try.prog W = .ok (.string ⟨#[D]⟩) W := fun W g h => by
      rw [conv1 W _ 1 _ h, byte_dig r (by omega), hD]
    have e7 : IntKind.i64.wrap (q : Int) = q := by rw [← e5] at e1; rw [← e5]; exact e1
    have IH : Hid (∀ w : World, Calls Try.prog 37 #[.int .i64 q] w fun e w' => e = .returned (.string ⟨(dig q).toArray⟩) ∧ Below w.heap.size w w') := fun w => ih q (by omega) (by omega) w
    have hdl : (dig q).length ≤ 1152921504606846976 := by have := dig_len q; omega
    have HQ := mkHid hq
    have HR := mkHid hr
    have HD := mkHid hD
    clear ih hq hr hD
    go_wp2_with fail
    go_region_with (go_at_call 37; (try rw [e1]); (try rw [e5]); (try rw [e7]); with_reducible refine (IH.out _).mono ?_; rintro e w' ⟨rfl, hB⟩; (first | (have hc := cell_of_alloc hB; (try simp only [e8, e2, e6, e3] at hc)) | skip))
    all_goals
      go_wp2_with fail
      go_ret
      refine ⟨?_, ?_⟩
      · have he : (⟨(dig q).toArray⟩ : ByteArray) ++ ⟨#[D]⟩ = ⟨(dig n).toArray⟩ := by rw [dig_big n h10, ← HQ.out, ← HR.out, ← HD.out]; exact app_list (dig q) [D]
        exact congrArg (fun z => Ending.returned (Value.string z)) he
      · have h0 : Below w.heap.size w w := Below.refl _ _
        first
          | exact below_tr h0 hB
          | exact (below_tr h0 hB).alloc (below_tr h0 hB).size _
          | exact below_tr (h0.alloc (Nat.le_refl _) _) hB
theorem comm_digits.calls (a0 : Int) (r : ByteArray) (w : World) (h : comm_digits.f a0 = some r) :
    Calls Try.prog 37 #[.int .i64 a0] w fun e w' => e = .returned (.string r) ∧ Below w.heap.size w w' := by
  unfold comm_digits.f at h
  split at h
  · rename_i hh
    obtain rfl := Option.some.inj h
    obtain ⟨n, rfl⟩ := Int.eq_ofNat_of_zero_le hh.1
    exact comm_digits.any n (by omega) w
  · exact absurd h (by simp)

end Go.Proofs.Ytikjfonedddlpaa.P
