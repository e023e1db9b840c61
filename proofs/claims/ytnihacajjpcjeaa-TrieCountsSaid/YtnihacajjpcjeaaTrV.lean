/- Tries: lives. -/
import Derived.Test.YtnihacajjpcjeaaTrE
import Derived.Test.YtnihacajjpcjeaaTrL
import Derived.Test.YtnihacajjpcjeaaPx1
import Derived.Test.YtnihacajjpcjeaaPx2
namespace Go.Proofs.Ytnihacajjpcjeaa
open Go.RowKit Go.Proofs.Ytnihacajjpcjeaa.P Go.Proofs.YtnihacajjpcjeaaW.PrintWords Go.Proofs.YtnihacajjpcjeaaW.PrintLast Go.Proofs.YtnihacajjpcjeaaW.PrintMore
set_option linter.unusedVariables false
set_option linter.unusedSimpArgs false

def lM1 : Way → Option Int := putM (fun _ => none) (wayA 167772160 8) (some 1)
def lM2 : Way → Option Int := putM lM1 (wayA 167837696 16) (some 2)
theorem l_bst : bstT lM2 167838211 33 = some (16, 2) := by decide +kernel
theorem l_none1 : ((fun _ => none : Way → Option Int) (wayA 167772160 8)).isSome = false := rfl
theorem l_none2 : (lM1 (wayA 167837696 16)).isSome = false := by decide +kernel
theorem l_adr : adrA 167838211 16 = 167837696 := by decide +kernel
theorem l_may1 : addr_May.f 167772160 ((8 : Nat) : Int) = some true := by decide +kernel
theorem l_may2 : addr_May.f 167837696 ((16 : Nat) : Int) = some true := by decide +kernel

set_option maxHeartbeats 8000000 in
set_option maxRecDepth 100000 in
theorem lives_calls (w : World) : Calls Try.prog 14 #[] w fun e w' => e = .returned (.bool true) ∧ Below w.heap.size w w' := by
  go_enter Try.func14, Try.ntmps14
  go_wp2_with fail
  refine (new_calls w).mono ?_
  rintro e w1 ⟨rfl, hs1, hT1, hB1⟩
  have HT1 := mkHid hT1
  have HB1 := mkHid hB1
  have HS1 : Hid (∀ b, b = w.heap.size → b < w1.heap.size) := fun b h => by omega
  clear hT1 hB1
  go_wp2_with fail
  refine (put_calls w1 w.heap.size _ 0 _ HT1.out 167772160 8 1 (by omega) (by omega) (by omega) (by omega) (by omega) l_may1 1 (by rw [l_none1]; rfl)).mono ?_
  rintro e w2 ⟨rfl, hT2, hK2⟩
  have HT2 := mkHid hT2
  have HB2 : Hid (Below w.heap.size w w2) := HB1.out.trans (hK2.below (B := w.heap.size) HB1.out.size (fun i hi => by omega))
  have hz2 : w1.heap.size ≤ w2.heap.size := hK2.size
  clear hT2 hK2
  go_wp2_with fail
  refine (put_calls w2 w.heap.size _ 1 _ HT2.out 167837696 16 2 (by omega) (by omega) (by omega) (by omega) (by omega) l_may2 2 (by rw [show (putM (fun _ => none) (wayA 167772160 8) (some 1)) (wayA 167837696 16) = lM1 (wayA 167837696 16) from rfl, l_none2]; rfl)).mono ?_
  rintro e w3 ⟨rfl, hT3, hK3⟩
  have HT3 := mkHid hT3
  have HB3 : Hid (Below w.heap.size w w3) := HB2.out.trans (hK3.below (B := w.heap.size) HB2.out.size (fun i hi => by
    rcases hi with h | h
    · omega
    · omega))
  clear hT3 hK3
  go_wp2_with fail
  refine (lng_calls w3 w.heap.size _ 2 _ HT3.out 167838211 (by omega) (by omega)).mono ?_
  rintro e w4 ⟨rfl, hB4⟩
  have HB4 : Hid (Below w.heap.size w w4) := below_step HB3.out (hB4.mono (Nat.le_refl _))
  rw [show putM (putM (fun _ => none) (wayA 167772160 8) (some 1)) (wayA 167837696 16) (some 2) = lM2 from rfl, l_bst]
  rw [show bA 167838211 (some ((16 : Nat), (2 : Int))) = 167837696 from l_adr, show bB (some ((16 : Nat), (2 : Int))) = 16 from rfl, show bV (some ((16 : Nat), (2 : Int))) = 2 from rfl, show (some ((16 : Nat), (2 : Int))).isSome = true from rfl]
  have heq := eqA34 9998 w4
  clear hB4
  go_wp2_with fail
  go_ret
  exact ⟨rfl, HB4.out.alloc HB4.out.size _⟩
end Go.Proofs.Ytnihacajjpcjeaa
