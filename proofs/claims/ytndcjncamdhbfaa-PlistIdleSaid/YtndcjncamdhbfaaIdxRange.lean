/- slices.IndexFunc and ContainsFunc over api.Range: with any test that answers. -/
import Derived.Test.YtndcjncamdhbfaaKdW
import Derived.Test.YtndcjncamdhbfaaPx0
set_option linter.unusedVariables false
set_option linter.unusedSimpArgs false
namespace Go.Proofs.Ytndcjncamdhbfaa.P
open Go.RowKit Go.Proofs.YtndcjncamdhbfaaW.PrintWords Go.Proofs.YtndcjncamdhbfaaW.PrintLast Go.Proofs.YtndcjncamdhbfaaW.PrintMore

set_option maxHeartbeats 2000000 in
set_option maxRecDepth 100000 in
theorem idx_Range (fid : Nat) (cap : Array Value) (p : S26 → Bool) (Inv : World → Prop) (hInv : ∀ W W', Inv W → Below W.heap.size W W' → Inv W')
    (hen : ∀ (args : Array Value) (W : World), (callFunc fid args).run Try.prog W = .ok (.enter fid args) W)
    (A : Option Addr) (c : Nat) (l : List S26) (hcl : ∀ x, x ∈ l → ∀ W, Inv W → Calls Try.prog fid (#[.agg #[.int .u32 x.f0.f0, .int .i64 x.f0.f1, .int .i64 x.f1, .int .i64 x.f2, .bool x.f3]] ++ cap) W fun e w' => e = .returned (.bool (p x)) ∧ Below W.heap.size W w')
    (w : World) (hr : Kd.C k26 w A l.length l) (hI : Inv w) :
    Calls Try.prog 45 #[.slice A l.length c, .func (.func fid) #[] cap] w fun e w' => e = .returned (.int .i64 (idxB p l)) ∧ Below w.heap.size w w' := by
  have hlm : l.length ≤ 9223372036854775807 := Kd.C_max hr
  have HC := mkHid hcl
  have HR := mkHid hr
  have HI := mkHid hInv
  have HI0 := mkHid hI
  clear hcl hr hInv hI
  go_enter Try.func45, Try.ntmps45
  go_wp2_with fail
  go_loopg [8] l.length (fun kq v8 wr => ∃ k : Int, v8 = .int .i64 k ∧ 0 ≤ k ∧ k ≤ l.length ∧ Hid (k + kq = l.length) ∧ Hid (∀ (i : Nat) (x : S26), i < k.toNat → l[i]? = some x → p x = false) ∧ Hid (Below w.heap.size w wr))
  case atStart => exact ⟨0, rfl, by omega, by omega, by unfold Hid; omega, fun i x hi => by simp at hi, Below.refl _ _⟩
  case round =>
    obtain ⟨k, rfl, k0, kn, hk, hall, hB⟩ := hrel
    have hk1 := hk.out
    by_cases hkn : k < l.length
    · obtain ⟨x, hx⟩ : ∃ x, l[k.toNat]? = some x := ⟨_, List.getElem?_eq_getElem (h := by omega)⟩
      obtain ⟨g, o, rfl, hg, hcells⟩ := C_at (Kd.C_below HR.out hB.out) (by decide) (by omega)
      obtain ⟨cs, _, hK, hcc⟩ := hcells _ _ hx
      have e := k26_open hK
      replace e : cs = [.int .u32 x.f0.f0, .int .i64 x.f0.f1, .int .i64 x.f1, .int .i64 x.f2, .bool x.f3] := e
      subst e
      have d0 : wr.cell? ⟨g, o + k.toNat * 5 + 0, none⟩ = some (.int .u32 x.f0.f0) := hcc 0 _ rfl
      have d1 : wr.cell? ⟨g, o + k.toNat * 5 + 1, none⟩ = some (.int .i64 x.f0.f1) := hcc 1 _ rfl
      have d2 : wr.cell? ⟨g, o + k.toNat * 5 + 2, none⟩ = some (.int .i64 x.f1) := hcc 2 _ rfl
      have d3 : wr.cell? ⟨g, o + k.toNat * 5 + 3, none⟩ = some (.int .i64 x.f2) := hcc 3 _ rfl
      have d4 : wr.cell? ⟨g, o + k.toNat * 5 + 4, none⟩ = some (.bool x.f3) := hcc 4 _ rfl

      clear hcc hcells hK
      try rw [Nat.add_zero] at d0
      try rw [Nat.mul_one] at d0
      have q1 : decide (k < (l.length : Int)) = true := decide_eq_true hkn
      have hw1 : IntKind.i64.wrap (k + 1) = k + 1 := IntWalk.i64_in _ (by omega)
      have HX := mkHid hx
      have hIr := mkHid (HI.out _ _ HI0.out hB.out)
      clear hx
      cases hpx : p x with
      | true =>
        have HPX := mkHid hpx
        clear hpx
        go_wp2_with fail
        refine (HC.out x (List.mem_of_getElem? HX.out) _ hIr.out).mono ?_
        rintro e w' ⟨rfl, hb⟩
        have HB2 : Hid (Below w.heap.size w w') := below_step hB.out hb
        clear hb
        rw [HPX.out]
        go_wp2_with fail
        go_ret
        refine ⟨?_, HB2.out⟩
        have := idxB_at p l k.toNat x HX.out HPX.out hall.out
        rw [this]
        have e : ((k.toNat : Nat) : Int) = k := by omega
        rw [e]; rfl
      | false =>
        have HPX := mkHid hpx
        clear hpx
        go_wp2_with fail
        refine (HC.out x (List.mem_of_getElem? HX.out) _ hIr.out).mono ?_
        rintro e w' ⟨rfl, hb⟩
        have HB2 : Hid (Below w.heap.size w w') := below_step hB.out hb
        clear hb
        rw [HPX.out]
        go_wp2_with fail
        go_roundg (gk - 1)
        case measure => omega
        case rel =>
          refine ⟨k + 1, rfl, by omega, by omega, by unfold Hid; omega, fun i y hi hy => ?_, HB2.out⟩
          by_cases hik : i < k.toNat
          · exact hall.out i y hik hy
          · have : i = k.toNat := by omega
            subst this
            rw [HX.out] at hy
            cases hy
            exact HPX.out
    · have q1 : decide (k < (l.length : Int)) = false := decide_eq_false (by omega)
      go_wp2_with fail
      go_ret
      refine ⟨?_, hB.out⟩
      rw [idxB_none p l (fun i x hx => hall.out i x (by have := (List.getElem?_eq_some_iff.1 hx).1; omega) hx)]
      rfl

end Go.Proofs.Ytndcjncamdhbfaa.P
