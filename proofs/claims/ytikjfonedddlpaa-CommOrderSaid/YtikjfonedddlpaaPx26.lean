/- Printed by this session's own program (wip/tools/pr.py) out of the translation: functions of the program as plain Lean functions, and that the program's calls come to what these say. -/
import Derived.Test.YtikjfonedddlpaaPx0
import Derived.Test.YtikjfonedddlpaaPx4
import Derived.Test.YtikjfonedddlpaaPx25
import Derived.Test.YtikjfonedddlpaaHasC
namespace Go.Proofs.Ytikjfonedddlpaa.P
open Go.RowKit Go.Proofs.YtikjfonedddlpaaW.PrintWords Go.Proofs.YtikjfonedddlpaaW.PrintLast Go.Proofs.YtikjfonedddlpaaW.PrintMore
attribute [local go_sem] max2_int min2_int max_two min_two max_three min_three max_four min_four   -- for this text's walks alone
set_option linter.unusedVariables false
set_option linter.unusedSimpArgs false

/-! ### comm_Del: function 31 -/
-- EXT Derived.Test.YtikjfonedddlpaaHasC
-- ALONE
def comm_Del.f (k : Nat) (l0 l1 : List S23) : Option (List S23 × Int) :=
  (comm_Set.f k l0).bind fun t => if t = true then (if l0.length ≤ 500000 then some (l0.filter (fun x => !inC l1 x), 0) else none) else some ([], 1)
theorem comm_Del.mono : ∀ a0 a1 k, LeO (comm_Del.f k a0 a1) (comm_Del.f (k + 1) a0 a1) := by
  intro a0 a1 k
  unfold comm_Del.f
  exact LeO.bind (comm_Set.mono _ _) (fun _ => LeO.refl _)
set_option maxHeartbeats 1000000 in
set_option maxRecDepth 100000 in
theorem comm_Del.test (x : S23) (g : Nat) (A1 : Option Addr) (c1 : Nat) (l1 : List S23) (W : World) (hc : W.cell? ⟨g, 0, none⟩ = some (.slice A1 l1.length c1)) (hC : Kd.C k23 W A1 l1.length l1) (hl : l1.length ≤ c1) :
    Calls Try.prog 54 #[.agg #[.int .i64 x.f0, .int .i64 x.f1], .pointer (some ⟨g, 0, none⟩)] W fun e w' => e = .returned (.bool (inC l1 x)) ∧ Below W.heap.size W w' := by
  have hg : g < W.heap.size := World.block_lt_of_cell? _ _ hc
  have hne : g ≠ W.heap.size := by omega
  have HC := mkHid hC
  have HL := mkHid hl
  have HK := mkHid (con_is l1 x (Kd.C_max hC))
  clear hC hl
  go_enter Try.func54, Try.ntmps54
  go_wp2_with fail
  have HB : Hid (Below W.heap.size W (W.alloc (Obj.cells #[.int .i64 x.f0, .int .i64 x.f1] 23))) := below_alloc (Below.refl _ _) _
  refine (api_Comm_55.calls (l1.length + 1) A1 c1 l1 x.f0 x.f1 (inC l1 x) _ (Kd.C_below HC.out HB.out) HL.out HK.out).mono ?_
  rintro e w' ⟨rfl, hd⟩
  have HD : Hid (Below W.heap.size W w') := by first | exact below_step HB.out hd | exact below_step HB.out hd.below
  clear hd
  generalize hg : inC l1 x = b
  have HG := mkHid hg
  clear hg
  go_wp2_with fail
  go_ret
  exact ⟨by rw [HG.out]; rfl, HD.out⟩
set_option maxHeartbeats 4000000 in
set_option maxRecDepth 100000 in
theorem comm_Del.calls (k : Nat) (A0 : Option Addr) (c0 : Nat) (l0 : List S23) (A1 : Option Addr) (c1 : Nat) (l1 : List S23) (r1 : List S23) (r2 : Int) (w : World) (hr0 : Kd.C k23 w A0 l0.length l0) (hc0 : l0.length ≤ c0) (hr1 : Kd.C k23 w A1 l1.length l1) (hc1 : l1.length ≤ c1) (h : comm_Del.f k l0 l1 = some (r1, r2)) :
    Calls Try.prog 31 #[.slice A0 l0.length c0, .slice A1 l1.length c1] w fun e w' => ∃ v0_ : Value, e = .returned (.tuple #[v0_, .int .i64 r2]) ∧ Kd.R k23 23 w' w.heap.size (fun _ => True) v0_ r1 ∧ Below w.heap.size w w' := by
  unfold comm_Del.f at h
  obtain ⟨t, ht, h⟩ := Option.bind_eq_some_iff.mp h
  have HR0 := mkHid hr0
  have HR1 := mkHid hr1
  have HC0 := mkHid hc0
  have HC1 := mkHid hc1
  have HT := mkHid ht
  clear hr0 hr1 hc0 hc1 ht
  go_enter Try.func31, Try.ntmps31
  go_wp2_with fail
  obtain ⟨W, hW⟩ : ∃ W, W = w.alloc (Obj.cells #[.slice A1 l1.length c1] 32) := ⟨_, rfl⟩
  rw [← hW]
  have hcW : W.cell? ⟨w.heap.size, 0, none⟩ = some (.slice A1 l1.length c1) := by rw [hW]; go_simp
  have hltW : w.heap.size < W.heap.size := by rw [hW]; simp
  have HBW : Hid (Below w.heap.size w W) := by unfold Hid; rw [hW]; exact below_alloc (Below.refl _ _) _
  have HCW := mkHid hcW
  clear hW hcW
  refine (comm_Set.calls k A0 c0 l0 t _ (Kd.C_below HR0.out HBW.out) HC0.out HT.out).mono ?_
  rintro e w1 ⟨rfl, hb⟩
  have HB1 := mkHid (below_step HBW.out hb)
  have HC1W := mkHid ((hb.cell (p := ⟨w.heap.size, 0, none⟩) hltW).trans HCW.out)
  have hlt1 : w.heap.size < w1.heap.size := Nat.lt_of_lt_of_le hltW hb.size
  clear hb HCW
  cases t with
  | false =>
    rw [if_neg (by simp)] at h
    obtain ⟨rfl, rfl⟩ := Prod.mk.inj (Option.some.inj h)
    clear h
    go_wp2_with fail
    go_ret2
    exact ⟨_, rfl, Kd.R_nil _ _ _ _ _, HB1.out⟩
  | true =>
    rw [if_pos rfl] at h
    by_cases hs : l0.length ≤ 500000
    · rw [if_pos hs] at h
      obtain ⟨rfl, rfl⟩ := Prod.mk.inj (Option.some.inj h)
      clear h
      go_wp2_with fail
      refine (api_Comm_53.calls A0 c0 l0 l0 _ (Kd.C_below HR0.out HB1.out) HC0.out (by unfold api_Comm_53.f; rw [if_pos (by omega)])).mono ?_
      rintro e w2 ⟨v2, rfl, hR2, hb⟩
      have HB2 := mkHid (below_step HB1.out hb)
      have HR2 := mkHid hR2
      have HC2W := mkHid ((hb.cell (p := ⟨w.heap.size, 0, none⟩) hlt1).trans HC1W.out)
      have HSZ := mkHid hb.size
      have HL0 := mkHid (show l0.length ≤ 1000000 by omega)
      clear hb hR2 hs
      go_wp2_with fail
      refine (delete_comm 54 #[.pointer (some ⟨w.heap.size, 0, none⟩)] (fun x => inC l1 x) (fun _ _ => by go_simp) v2 l0 w1.heap.size w2 (fun x _ W' hW' => ?_) HR2.out HL0.out HSZ.out).mono ?_
      · exact comm_Del.test x w.heap.size A1 c1 l1 W' ((hW'.cell (p := ⟨w.heap.size, 0, none⟩) hlt1).trans HC2W.out) (Kd.C_below HR1.out (HB2.out.trans (hW'.mono (Nat.le_of_lt hlt1)))) HC1.out
      rintro e w3 ⟨v3, rfl, hR3, hb⟩
      obtain ⟨A3, c3, hv3⟩ := Kd.R_slice hR3
      subst hv3
      have HB3 := mkHid (HB2.out.trans (hb.mono (Nat.le_of_lt hlt1)))
      have HR3 := mkHid (Kd.R_lower hR3 (Nat.le_of_lt hlt1))
      clear hb hR3
      go_wp2_with fail
      go_ret2
      exact ⟨_, rfl, HR3.out, HB3.out⟩
    · rw [if_neg hs] at h; exact absurd h (by simp)

end Go.Proofs.Ytikjfonedddlpaa.P
