/- slices.CompareFunc over api.Comm: with any comparison that answers. -/
import Derived.Test.YtikjfonedddlpaaKdW
import Derived.Test.YtikjfonedddlpaaPx0
set_option linter.unusedVariables false
set_option linter.unusedSimpArgs false
namespace Go.Proofs.Ytikjfonedddlpaa.P
open Go.RowKit Go.Proofs.YtikjfonedddlpaaW.PrintWords Go.Proofs.YtikjfonedddlpaaW.PrintLast Go.Proofs.YtikjfonedddlpaaW.PrintMore

set_option maxHeartbeats 4000000 in
set_option maxRecDepth 100000 in
theorem cmpf_Comm (fid : Nat) (o : S23 → S23 → Int) (hen : ∀ (args : Array Value) (W : World), (callFunc fid args).run Try.prog W = .ok (.enter fid args) W)
    (hcmp : ∀ (x y : S23) (W : World), Calls Try.prog fid #[.agg #[.int .i64 x.f0, .int .i64 x.f1], .agg #[.int .i64 y.f0, .int .i64 y.f1]] W fun e w' => e = .returned (.int .i64 (o x y)) ∧ Below W.heap.size W w')
    (A0 : Option Addr) (c0 : Nat) (l0 : List S23) (A1 : Option Addr) (c1 : Nat) (l1 : List S23) (w : World) (hr0 : Kd.C k23 w A0 l0.length l0) (hr1 : Kd.C k23 w A1 l1.length l1) :
    Calls Try.prog 48 #[.slice A0 l0.length c0, .slice A1 l1.length c1, .func (.func fid) #[] #[]] w fun e w' => e = .returned (.int .i64 (cmpLst o l0 l1)) ∧ Below w.heap.size w w' := by
  have hlm0 : l0.length ≤ 9223372036854775807 := Kd.C_max hr0
  have hlm1 : l1.length ≤ 9223372036854775807 := Kd.C_max hr1
  have HC := mkHid hcmp
  have HR0 := mkHid hr0
  have HR1 := mkHid hr1
  clear hcmp hr0 hr1
  generalize hD : cmpLst o l0 l1 = D
  have HD := mkHid hD
  clear hD
  go_enter Try.func48, Try.ntmps48
  go_wp2_with fail
  go_loopg [13] l0.length (fun kq v13 wr => ∃ k : Int, v13 = .int .i64 k ∧ 0 ≤ k ∧ k ≤ l0.length ∧ k ≤ l1.length ∧ Hid (k + kq = l0.length) ∧ Hid (cmpLst o (l0.drop k.toNat) (l1.drop k.toNat) = D) ∧ Hid (Below w.heap.size w wr))
  case atStart => exact ⟨0, rfl, by omega, by omega, by omega, by unfold Hid; omega, HD.out, Below.refl _ _⟩
  case round =>
    obtain ⟨k, rfl, k0, kn, kn1, hk, hcl, hB⟩ := hrel
    have hk1 := hk.out
    by_cases hkn : k < l0.length
    · have q1 : decide (k < (l0.length : Int)) = true := decide_eq_true hkn
      obtain ⟨x, hx⟩ : ∃ x, l0[k.toNat]? = some x := ⟨_, List.getElem?_eq_getElem (h := by omega)⟩
      obtain ⟨g, ob, rfl, hg, hcells⟩ := C_at (Kd.C_below HR0.out hB.out) (by decide) (by omega)
      obtain ⟨cs, _, hK, hcc⟩ := hcells _ _ hx
      have e := k23_open hK
      replace e : cs = [.int .i64 x.f0, .int .i64 x.f1] := e
      subst e
      have d0 : wr.cell? ⟨g, ob + k.toNat * 2 + 0, none⟩ = some (.int .i64 x.f0) := hcc 0 _ rfl
      have d1 : wr.cell? ⟨g, ob + k.toNat * 2 + 1, none⟩ = some (.int .i64 x.f1) := hcc 1 _ rfl

      clear hcc hcells hK
      try rw [Nat.add_zero] at d0
      try rw [Nat.mul_one] at d0
      have hdx : l0.drop k.toNat = x :: l0.drop (k.toNat + 1) := by
        obtain ⟨hh, e⟩ := List.getElem?_eq_some_iff.1 hx
        rw [List.drop_eq_getElem_cons hh, e]
      have HDX := mkHid hdx
      clear hx hdx
      by_cases hk2 : k < l1.length
      · have q2 : decide ((l1.length : Int) ≤ k) = false := decide_eq_false (by omega)
        have q2' : decide (k < (l1.length : Int)) = true := decide_eq_true hk2
        obtain ⟨y, hy⟩ : ∃ y, l1[k.toNat]? = some y := ⟨_, List.getElem?_eq_getElem (h := by omega)⟩
        obtain ⟨g2, ob2, rfl, hg2, hcells⟩ := C_at (Kd.C_below HR1.out hB.out) (by decide) (by omega)
        obtain ⟨cs, _, hK, hcc⟩ := hcells _ _ hy
        have e := k23_open hK
        replace e : cs = [.int .i64 y.f0, .int .i64 y.f1] := e
        subst e
        have f0 : wr.cell? ⟨g2, ob2 + k.toNat * 2 + 0, none⟩ = some (.int .i64 y.f0) := hcc 0 _ rfl
        have f1 : wr.cell? ⟨g2, ob2 + k.toNat * 2 + 1, none⟩ = some (.int .i64 y.f1) := hcc 1 _ rfl

        clear hcc hcells hK
        try rw [Nat.add_zero] at f0
        try rw [Nat.mul_one] at f0
        have hdy : l1.drop k.toNat = y :: l1.drop (k.toNat + 1) := by
          obtain ⟨hh, e⟩ := List.getElem?_eq_some_iff.1 hy
          rw [List.drop_eq_getElem_cons hh, e]
        have HDY := mkHid hdy
        have hw1 : IntKind.i64.wrap (k + 1) = k + 1 := IntWalk.i64_in _ (by omega)
        have hne1 : g ≠ wr.heap.size := by omega
        have hne2 : g2 ≠ wr.heap.size := by omega
        clear hy hdy
        have hc := hcl.out
        rw [HDX.out, HDY.out] at hc
        unfold cmpLst at hc
        by_cases h0 : o x y = 0
        · rw [if_neg (by rw [h0]; simp)] at hc
          have HC0 := mkHid hc
          have H0 := mkHid h0
          clear hc h0
          go_wp2_with fail
          refine (HC.out x y _).mono ?_
          rintro e w' ⟨rfl, hb⟩
          have HB2 : Hid (Below w.heap.size w w') := below_step (by repeat (first | exact hB.out | apply below_alloc)) hb
          clear hb
          rw [H0.out]
          go_wp2_with fail
          go_roundg (gk - 1)
          case measure => omega
          case rel =>
            refine ⟨k + 1, rfl, by omega, by omega, by omega, by unfold Hid; omega, ?_, HB2.out⟩
            have e : (k + 1).toNat = k.toNat + 1 := by omega
            show cmpLst o (l0.drop (k + 1).toNat) (l1.drop (k + 1).toNat) = D
            rw [e]; exact HC0.out
        · rw [if_pos h0] at hc
          have HC0 := mkHid hc
          have q3 : (D == 0) = false := by rw [← hc]; simpa using h0
          have q3' : (D != 0) = true := by rw [← hc]; simpa using h0
          clear hc h0
          go_wp2_with fail
          refine (HC.out x y _).mono ?_
          rintro e w' ⟨rfl, hb⟩
          have HB2 : Hid (Below w.heap.size w w') := below_step (by repeat (first | exact hB.out | apply below_alloc)) hb
          clear hb
          rw [HC0.out]
          go_wp2_with fail
          go_ret
          exact ⟨rfl, HB2.out⟩
      · have q2 : decide ((l1.length : Int) ≤ k) = true := decide_eq_true (by omega)
        have hc := hcl.out
        rw [HDX.out, (List.drop_eq_nil_iff.2 (by omega) : l1.drop k.toNat = [])] at hc
        have hc1 : (1 : Int) = D := hc
        have HC1 := mkHid hc1
        clear hc hc1
        go_wp2_with fail
        go_ret
        refine ⟨by rw [← HC1.out]; rfl, ?_⟩
        repeat (first | exact hB.out | apply below_alloc)
    · have q1 : decide (k < (l0.length : Int)) = false := decide_eq_false (by omega)
      have hc := hcl.out
      rw [(List.drop_eq_nil_iff.2 (by omega) : l0.drop k.toNat = [])] at hc
      by_cases hk2 : l0.length < l1.length
      · have q2 : decide (l0.length < l1.length) = true := decide_eq_true hk2
        have q2' : decide ((l0.length : Int) < (l1.length : Int)) = true := decide_eq_true (by omega)
        obtain ⟨y, hy⟩ : ∃ y, l1[k.toNat]? = some y := ⟨_, List.getElem?_eq_getElem (h := by omega)⟩
        obtain ⟨hh, e⟩ := List.getElem?_eq_some_iff.1 hy
        rw [List.drop_eq_getElem_cons hh] at hc
        have hc1 : (-1 : Int) = D := hc
        have HC1 := mkHid hc1
        clear hc hc1 hy e
        go_wp2_with fail
        go_ret
        exact ⟨by rw [← HC1.out]; rfl, hB.out⟩
      · have q2 : decide (l0.length < l1.length) = false := decide_eq_false hk2
        have q2' : decide ((l0.length : Int) < (l1.length : Int)) = false := decide_eq_false (by omega)
        rw [(List.drop_eq_nil_iff.2 (by omega) : l1.drop k.toNat = [])] at hc
        have hc1 : (0 : Int) = D := hc
        have HC1 := mkHid hc1
        clear hc hc1
        go_wp2_with fail
        go_ret
        exact ⟨by rw [← HC1.out]; rfl, hB.out⟩
end Go.Proofs.Ytikjfonedddlpaa.P
