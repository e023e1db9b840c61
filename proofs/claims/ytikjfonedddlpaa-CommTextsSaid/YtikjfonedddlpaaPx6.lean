/- Printed by this session's own program (wip/tools/pr.py) out of the translation: functions of the program as plain Lean functions, and that the program's calls come to what these say. -/
import Derived.Test.YtikjfonedddlpaaPx0
import Derived.Test.YtikjfonedddlpaaPx2
import Derived.Test.YtikjfonedddlpaaPx4
import Derived.Test.YtikjfonedddlpaaPx5
import Derived.Test.YtikjfonedddlpaaConComm
import Derived.Test.YtikjfonedddlpaaCompactC
namespace Go.Proofs.Ytikjfonedddlpaa.P
open Go.RowKit Go.Proofs.YtikjfonedddlpaaW.PrintWords Go.Proofs.YtikjfonedddlpaaW.PrintLast Go.Proofs.YtikjfonedddlpaaW.PrintMore
attribute [local go_sem] max2_int min2_int max_two min_two max_three min_three max_four min_four   -- for this text's walks alone
set_option linter.unusedVariables false
set_option linter.unusedSimpArgs false

/-! ### comm_Add: function 20 -/
-- EXT Derived.Test.YtikjfonedddlpaaConComm Derived.Test.YtikjfonedddlpaaCompactC
-- ALONE
def comm_Add.may (x : S23) : Bool := decide (1 ≤ x.f0) && (decide (x.f0 ≤ 65535) && (decide (0 ≤ x.f1) && decide (x.f1 ≤ 65535)))
theorem comm_Add.may_is (x : S23) : comm_May.f x.f0 x.f1 = some (comm_Add.may x) := by
  unfold comm_May.f comm_Add.may
  by_cases h1 : x.f0 ≥ 1
  · rw [if_pos h1]
    by_cases h2 : x.f0 ≤ 65535
    · rw [if_pos h2]
      by_cases h3 : x.f1 ≥ 0
      · rw [if_pos h3]; simp [h1, h2, h3]
      · rw [if_neg h3]; simp [h3]
    · rw [if_neg h2]; simp [h2]
  · rw [if_neg h1]; simp [h1]
def comm_Add.f (k : Nat) (l0 l1 : List S23) : Option (List S23 × Int) :=
  (comm_Set.f k l0).bind fun t => if t = true then (if (l1.any fun c => !comm_Add.may c) = true then some ([], 1) else (if l0.length + l1.length ≤ 500000 then (if 8 < (dd eqC (sortC (l0 ++ l1))).length then some ([], 2) else some (dd eqC (sortC (l0 ++ l1)), 0)) else none)) else some ([], 1)
theorem comm_Add.mono : ∀ a0 a1 k, LeO (comm_Add.f k a0 a1) (comm_Add.f (k + 1) a0 a1) := by
  intro a0 a1 k
  unfold comm_Add.f
  exact LeO.bind (comm_Set.mono _ _) (fun _ => LeO.refl _)
theorem comm_Add.test (x : S23) (w : World) : Calls Try.prog 40 #[.agg #[.int .i64 x.f0, .int .i64 x.f1]] w fun e w' => e = .returned (.bool (!comm_Add.may x)) ∧ Below w.heap.size w w' := by
  have HM := mkHid (fun W => comm_May.calls x.f0 x.f1 _ W (comm_Add.may_is x))
  go_enter Try.func40, Try.ntmps40
  go_wp2_with fail
  refine (HM.out _).mono ?_
  rintro e w' ⟨rfl, hd⟩
  have HD := mkHid hd
  clear hd
  generalize hg : comm_Add.may x = b
  have HG := mkHid hg
  clear hg
  go_wp2_with fail
  go_ret
  exact ⟨by rw [HG.out]; rfl, below_step (below_alloc (Below.refl _ _) _) HD.out⟩
theorem comm_Add.two {w : World} {g : Nat} {A0 A1 : Option Addr} {c0 c1 : Nat} {l0 l1 : List S23} (d0 : w.cell? ⟨g, 0, none⟩ = some (.slice A0 l0.length c0)) (d1 : w.cell? ⟨g, 1, none⟩ = some (.slice A1 l1.length c1))
    (h0 : Kd.C k23 w A0 l0.length l0) (h1 : Kd.C k23 w A1 l1.length l1) (q0 : l0.length ≤ c0) (q1 : l1.length ≤ c1) : Kd.C (Kd.slice 23 k23) w (some ⟨g, 0, none⟩) [l0, l1].length [l0, l1] := by
  refine ⟨rfl, by simp [maxLen], fun _ => ⟨⟨g, 0, none⟩, rfl, ?_⟩⟩
  intro j z hz
  match j with
  | 0 => simp at hz; subst hz; exact ⟨[.slice A0 l0.length c0], rfl, ⟨A0, c0, rfl, q0, h0⟩, fun i u hu => by match i with | 0 => simp at hu; subst hu; exact d0 | i + 1 => simp at hu⟩
  | 1 => simp at hz; subst hz; exact ⟨[.slice A1 l1.length c1], rfl, ⟨A1, c1, rfl, q1, h1⟩, fun i u hu => by match i with | 0 => simp at hu; subst hu; exact d1 | i + 1 => simp at hu⟩
  | j + 2 => simp at hz
set_option maxHeartbeats 4000000 in
set_option maxRecDepth 100000 in
theorem comm_Add.calls (k : Nat) (A0 : Option Addr) (c0 : Nat) (l0 : List S23) (A1 : Option Addr) (c1 : Nat) (l1 : List S23) (r1 : List S23) (r2 : Int) (w : World) (hr0 : Kd.C k23 w A0 l0.length l0) (hc0 : l0.length ≤ c0) (hr1 : Kd.C k23 w A1 l1.length l1) (hc1 : l1.length ≤ c1) (h : comm_Add.f k l0 l1 = some (r1, r2)) :
    Calls Try.prog 20 #[.slice A0 l0.length c0, .slice A1 l1.length c1] w fun e w' => ∃ v0_ : Value, e = .returned (.tuple #[v0_, .int .i64 r2]) ∧ Kd.R k23 23 w' w.heap.size (fun _ => True) v0_ r1 ∧ Below w.heap.size w w' := by
  unfold comm_Add.f at h
  obtain ⟨t, ht, h⟩ := Option.bind_eq_some_iff.mp h
  have HR0 := mkHid hr0
  have HR1 := mkHid hr1
  have HC0 := mkHid hc0
  have HC1 := mkHid hc1
  have HT := mkHid ht
  clear hr0 hr1 hc0 hc1 ht
  cases t with
  | false =>
    rw [if_neg (by simp)] at h
    obtain ⟨rfl, rfl⟩ := Prod.mk.inj (Option.some.inj h)
    clear h
    go_enter Try.func20, Try.ntmps20
    go_wp2_with fail
    refine (comm_Set.calls k A0 c0 l0 false w HR0.out HC0.out HT.out).mono ?_
    rintro e w1 ⟨rfl, hb⟩
    have HB := mkHid hb
    clear hb
    go_wp2_with fail
    go_ret2
    exact ⟨_, rfl, Kd.R_nil _ _ _ _ _, HB.out⟩
  | true =>
    rw [if_pos rfl] at h
    by_cases ha : (l1.any fun c => !comm_Add.may c) = true
    · rw [if_pos ha] at h
      obtain ⟨rfl, rfl⟩ := Prod.mk.inj (Option.some.inj h)
      clear h
      have HA := mkHid ha
      clear ha
      go_enter Try.func20, Try.ntmps20
      go_wp2_with fail
      refine (comm_Set.calls k A0 c0 l0 true w HR0.out HC0.out HT.out).mono ?_
      rintro e w1 ⟨rfl, hb⟩
      have HB := mkHid hb
      clear hb
      go_wp2_with fail
      refine (con_Comm 40 #[] (fun n => !comm_Add.may n) (fun _ => True) (fun _ _ _ _ => trivial) (fun _ _ => by go_simp) A1 c1 l1 (fun x _ W _ => comm_Add.test x W) _ (Kd.C_below HR1.out HB.out) trivial).mono ?_
      rintro e w2 ⟨rfl, hb⟩
      have HB2 := mkHid (below_step HB.out hb)
      rw [HA.out]
      clear hb HB
      go_wp2_with fail
      go_ret2
      exact ⟨_, rfl, Kd.R_nil _ _ _ _ _, HB2.out⟩
    · rw [if_neg ha] at h
      by_cases hs : l0.length + l1.length ≤ 500000
      · rw [if_pos hs] at h
        have HA := mkHid (Bool.eq_false_iff.mpr ha)
        have hflat : api_Comm_41.f [l0, l1] = some (l0 ++ l1) := by
          unfold api_Comm_41.f
          rw [if_pos ⟨by simp, by simp [api_Comm_41.sum]; omega⟩]; simp
        have HF := mkHid hflat
        have hlen : (l0 ++ l1).length ≤ 1000000 := by rw [List.length_append]; omega
        have hlen2 : (sortC (l0 ++ l1)).length ≤ 1000000 := by unfold sortC; rw [List.length_mergeSort]; exact hlen
        have HL1 := mkHid hlen
        have HL2 := mkHid hlen2
        have HH := mkHid h
        clear ha hflat hlen hlen2 h
        go_enter Try.func20, Try.ntmps20
        go_wp2_with fail
        refine (comm_Set.calls k A0 c0 l0 true w HR0.out HC0.out HT.out).mono ?_
        rintro e w1 ⟨rfl, hb⟩
        have HB := mkHid hb
        clear hb
        go_wp2_with fail
        refine (con_Comm 40 #[] (fun n => !comm_Add.may n) (fun _ => True) (fun _ _ _ _ => trivial) (fun _ _ => by go_simp) A1 c1 l1 (fun x _ W _ => comm_Add.test x W) _ (Kd.C_below HR1.out HB.out) trivial).mono ?_
        rintro e w2 ⟨rfl, hb⟩
        have HB2 := mkHid (below_step HB.out hb)
        rw [HA.out]
        clear hb HB
        go_wp2_with fail
        obtain ⟨w3, hw3⟩ : ∃ W, W = w2.alloc (Obj.cells #[.slice A0 l0.length c0, .slice A1 l1.length c1] 32) := ⟨_, rfl⟩
        rw [← hw3]
        have d0 : w3.cell? ⟨w2.heap.size, 0, none⟩ = some (.slice A0 l0.length c0) := by rw [hw3]; go_simp
        have d1 : w3.cell? ⟨w2.heap.size, 1, none⟩ = some (.slice A1 l1.length c1) := by rw [hw3]; go_simp
        have HB3 : Hid (Below w.heap.size w w3) := by unfold Hid; rw [hw3]; exact below_alloc HB2.out _
        have HCC := mkHid (comm_Add.two d0 d1 (Kd.C_below HR0.out HB3.out) (Kd.C_below HR1.out HB3.out) HC0.out HC1.out)
        clear d0 d1 hw3 HB2
        refine (api_Comm_41.calls (some ⟨w2.heap.size, 0, none⟩) 2 [l0, l1] (l0 ++ l1) w3 HCC.out (by simp) HF.out).mono ?_
        rintro e w4 ⟨v4, rfl, hR4, hb⟩
        have HR4 := mkHid (Kd.R_lower hR4 HB3.out.size)
        have HB4 := mkHid (below_step HB3.out hb)
        clear hR4 hb HB3
        go_wp2_with fail
        refine (sort_comm v4 (l0 ++ l1) w.heap.size w4 HR4.out HL1.out).mono ?_
        rintro e w5 ⟨rfl, hR5, hb⟩
        have HR5 := mkHid hR5
        have HB5 := mkHid (HB4.out.trans hb)
        clear hR5 hb HB4 HR4
        go_wp2_with fail
        refine (compact_comm v4 (sortC (l0 ++ l1)) w.heap.size w5 HR5.out HL2.out HB5.out.size).mono ?_
        rintro e w6 ⟨v6, rfl, hR6, hb⟩
        have HB6 := mkHid (HB5.out.trans hb)
        have HR6 := mkHid hR6
        obtain ⟨A6, c6, hv6⟩ := Kd.R_slice hR6
        subst hv6
        clear hR6 hb HB5 HR5
        generalize hg : dd eqC (sortC (l0 ++ l1)) = q at *
        have hh := HH.out
        by_cases h8 : 8 < q.length
        · rw [if_pos h8] at hh
          obtain ⟨rfl, rfl⟩ := Prod.mk.inj (Option.some.inj hh)
          clear hh HH hg
          have q8 : decide ((8 : Int) < (q.length : Int)) = true := decide_eq_true (by omega)
          go_wp2_with fail
          go_ret2
          exact ⟨_, rfl, Kd.R_nil _ _ _ _ _, HB6.out⟩
        · rw [if_neg h8] at hh
          obtain ⟨rfl, rfl⟩ := Prod.mk.inj (Option.some.inj hh)
          clear hh HH hg
          have q8 : decide ((8 : Int) < (q.length : Int)) = false := decide_eq_false (by omega)
          go_wp2_with fail
          go_ret2
          exact ⟨_, rfl, HR6.out, HB6.out⟩
      · rw [if_neg hs] at h; exact absurd h (by simp)

end Go.Proofs.Ytikjfonedddlpaa.P
