/- Tries: the law TrieCounts. -/
import Derived.Test.YtnihacajjpcjeaaTrC2
import Derived.Test.YtnihacajjpcjeaaPx0
import Derived.Test.YtnihacajjpcjeaaPx2
namespace Go.Proofs.Ytnihacajjpcjeaa
open Go.RowKit Go.Proofs.Ytnihacajjpcjeaa.P Go.Proofs.YtnihacajjpcjeaaW.PrintWords Go.Proofs.YtnihacajjpcjeaaW.PrintLast Go.Proofs.YtnihacajjpcjeaaW.PrintMore
set_option linter.unusedVariables false
set_option linter.unusedSimpArgs false

theorem cnt_all (l : List S43) : cntT l [] = l.length := by
  unfold cntT
  rw [List.countP_eq_length]
  intro x _; rfl
set_option maxHeartbeats 8000000 in
set_option maxRecDepth 100000 in
theorem Fold_cnt (w : World) (bt : Nat) (own : Nat → Prop) (n : Int) (m : Way → Option Int) (l : List S43) (hT : Tri kI w bt own n m) (hR : Rel m l) (hl : l.length ≤ 100) :
    Calls Try.prog 16 #[.pointer (some ⟨bt, 0, none⟩), .func (.func 15) #[] #[]] w fun e w' => e = .returned (.int .i64 (l.length : Int)) ∧ Below w.heap.size w w' := by
  obtain ⟨D, blk, g1, g2, g3, g4⟩ := hT
  have hc := g1.cell0
  cases hD : D [] with
  | false =>
    have hnil : l = [] := by
      cases l with
      | nil => rfl
      | cons x l =>
        have h1 := g1.nodes.sup (wayP x.f0) (by rw [(hR.ok x (List.mem_cons_self)).2]; rfl)
        rw [g1.nodes.ups (wayP x.f0) [] h1] at hD; cases hD
    subst hnil
    rw [ptrT_none hD] at hc
    have hcall := mkHid (cnt_calls w none 0 [] 0 false ⟨rfl, by simp, fun h => absurd h (by simp)⟩ (Nat.le_refl _) (by simp) (by simp))
    clear g1 g2 g3 g4 hR
    go_enter Try.func16, Try.ntmps16
    go_wp2_with fail
    refine hcall.out.mono ?_
    rintro e w' ⟨rfl, hb⟩
    have HB := mkHid hb
    clear hb
    go_wp2_with fail
    go_ret
    exact ⟨rfl, HB.out⟩
  | true =>
    rw [ptrT_some hD] at hc
    have hcall := mkHid (fold_calls bt n D m blk l hR g2 hl 33 [] rfl hD w g1)
    clear g1 g2 g3 g4 hR
    go_enter Try.func16, Try.ntmps16
    go_wp2_with fail
    refine hcall.out.mono ?_
    rintro e w' ⟨rfl, hb⟩
    have HB := mkHid hb
    rw [cnt_all]
    clear hb
    go_wp2_with fail
    go_ret
    exact ⟨rfl, HB.out⟩
set_option maxHeartbeats 8000000 in
set_option maxRecDepth 100000 in
theorem Fold_nod (w : World) (bt : Nat) (own : Nat → Prop) (n : Int) (m : Way → Option Int) (hT : Tri kI w bt own n m) (hm : ∀ π, m π = none) :
    Calls Try.prog 16 #[.pointer (some ⟨bt, 0, none⟩), .func (.func 19) #[] #[]] w fun e w' => e = .returned (.int .i64 1) ∧ Below w.heap.size w w' := by
  obtain ⟨D, blk, g1, g2, g3, g4⟩ := hT
  have hc := g1.cell0
  have hD : D [] = false := by
    cases h : D [] with
    | false => rfl
    | true => obtain ⟨ρ, hr⟩ := g2 [] h; rw [hm] at hr; cases hr
  rw [ptrT_none hD] at hc
  clear g1 g2 g3 g4 hm
  go_enter Try.func16, Try.ntmps16
  go_wp2_with fail
  refine (nod_nil w).mono ?_
  rintro e w' ⟨rfl, hb⟩
  have HB := mkHid hb
  clear hb
  go_wp2_with fail
  go_ret
  exact ⟨rfl, HB.out⟩

set_option maxHeartbeats 16000000 in
set_option maxRecDepth 100000 in
theorem counts_calls (w : World) (A0 : Option Addr) (c0 : Nat) (l0 : List S61) (hr0 : Kd.C k61 w A0 l0.length l0) (hc0 : l0.length ≤ c0) (hok : ∀ x ∈ l0, isA x.f2.f0) :
    Calls Try.prog 4 #[.slice A0 l0.length c0] w fun e w' => e = .returned (.bool true) ∧ Below w.heap.size w w' := by
  have HR0 := mkHid hr0
  have HOK := mkHid hok
  clear hr0 hok
  go_enter Try.func4, Try.ntmps4
  go_wp2_with fail
  refine (made_calls w A0 c0 l0 HR0.out hc0 HOK.out).mono ?_
  rintro e w1 ⟨bt, own, n, m, v, l, rfl, hSO, hl⟩
  have HSO := mkHid hSO
  obtain ⟨A, c, hv⟩ := Kd.R_slice hSO.row
  subst hv
  have hn := hSO.len
  clear hSO
  obtain ⟨ln, hln⟩ : ∃ ln, ln = l.length := ⟨_, rfl⟩
  have HLN := mkHid hln
  rw [← hln] at hn hl HSO ⊢
  subst hn
  clear hln
  go_wp2_with fail
  refine (Fold_cnt w1 bt own _ m l HSO.out.tri HSO.out.rel (by rw [← HLN.out]; omega)).mono ?_
  rintro e w2 ⟨rfl, hb⟩
  rw [← HLN.out]
  have HS2 := mkHid (HSO.out.read hb)
  clear hb HSO
  go_wp2_with fail
  refine (len_calls w2 bt own _ m HS2.out.tri).mono ?_
  rintro e w2' ⟨rfl, rfl⟩
  go_wp2_with fail
  refine (len_calls _ bt own _ m HS2.out.tri).mono ?_
  rintro e w2'' ⟨rfl, rfl⟩
  go_wp2_with fail
  have HRel : Hid (Rel m l) := HS2.out.rel
  go_loopg [6] ln (fun kq v6 wr => ∃ (i : Nat) (m' : Way → Option Int) (n' : Int), v6 = .int .i64 i ∧ i ≤ ln ∧ i + kq = ln ∧ n' = (ln : Int) - i ∧ Hid (Tri kI wr bt own n' m') ∧ Hid (Kb own w2'' wr) ∧ Hid (∀ x ∈ l.drop i, m' (wayP x.f0) = some x.f1) ∧ Hid (∀ π u, m' π = some u → ∃ x ∈ l.drop i, wayP x.f0 = π))
  case atStart => exact ⟨0, m, ln, rfl, by omega, by omega, by omega, HS2.out.tri, Kb.refl _ _, fun x hx => (HRel.out.ok x (by simpa using hx)).2, fun π u h => by simpa using HRel.out.all π u h⟩
  case round =>
    obtain ⟨i, m', n', rfl, hi, hk, hn', HT, HK, HM1, HM2⟩ := hrel
    have HRr : Hid (Kd.R k43 43 wr w.heap.size (fun k => some k = (Value.slice A ln c).ownBlock) (.slice A ln c) l) := Kd.R_step (Kd.R_tight rfl HS2.out.row) (fun k ho hlt => HK.out.block k hlt (HS2.out.dis k ho.symm))
    by_cases hil : i < ln
    · have hlt : i < l.length := by rw [← HLN.out]; exact hil
      obtain ⟨x, hx⟩ : ∃ x, l[i]? = some x := ⟨_, List.getElem?_eq_getElem (h := hlt)⟩
      obtain ⟨ad, hA, d0, d1, d2⟩ := at_T43 (Kd.R_reads' HRr.out).2.2 (i : Int) (by omega) (by omega)
      subst hA
      have hrd : rd_T43 l (i : Int) = x := by unfold rd_T43; rw [Int.toNat_natCast, List.getD_eq_getElem?_getD, hx]; rfl
      rw [hrd, Int.toNat_natCast] at d0 d1
      have hox := HRel.out.ok x (List.mem_of_getElem? hx)
      have hbx := okP_bits hox.1
      obtain ⟨a, ha⟩ : ∃ a, a = x.f0.f0 := ⟨_, rfl⟩
      obtain ⟨b, hb⟩ : ∃ b : Nat, (b : Int) = x.f0.f1 := ⟨x.f0.f1.toNat, by omega⟩
      have hway : wayP x.f0 = wayA a b := by unfold wayP; rw [← ha, ← hb, Int.toNat_natCast]
      rw [← ha] at d0
      rw [← hb] at d1
      have hisA : isA a := by rw [ha]; exact hox.1.1
      have HMay : Hid (addr_May.f a b = some true) := by unfold Hid; rw [may_is _ _ hisA, ha, hb, hox.1.2]
      have hb32 : b ≤ 32 := by omega
      have ha1 : a < 4294967296 := by have := hisA.2; omega
      have hdrop : l.drop i = x :: l.drop (i + 1) := by
        obtain ⟨hh, e⟩ := List.getElem?_eq_some_iff.1 hx
        rw [List.drop_eq_getElem_cons hh, e]
      have hmx : m' (wayA a b) = some x.f1 := by rw [← hway]; exact HM1.out x (by rw [hdrop]; exact List.mem_cons_self)
      have hsub : (l.drop i).Sublist l := List.drop_sublist _ _
      have hne : ∀ y ∈ l.drop (i + 1), wayP y.f0 ≠ wayP x.f0 := fun y hy e => by
        have hs := HRel.out.srt.sublist hsub
        rw [hdrop] at hs
        exact befP_ne ((List.pairwise_cons.1 hs).1 y hy) (wayP_inj hox.1 (HRel.out.ok y (hsub.subset (by rw [hdrop]; exact List.mem_cons_of_mem _ hy))).1 e.symm)
      have HN1 : Hid (∀ y ∈ l.drop (i + 1), putM m' (wayA a b) none (wayP y.f0) = some y.f1) := fun y hy => by
        rw [← hway, putM_ne (hne y hy)]; exact HM1.out y (by rw [hdrop]; exact List.mem_cons_of_mem _ hy)
      have HN2 : Hid (∀ π u, putM m' (wayA a b) none π = some u → ∃ y ∈ l.drop (i + 1), wayP y.f0 = π) := fun π u h => by
        by_cases e : π = wayA a b
        · rw [e, putM_self] at h; cases h
        · rw [putM_ne e] at h
          obtain ⟨y, hy, hw⟩ := HM2.out π u h
          rw [hdrop] at hy
          rcases List.mem_cons.1 hy with rfl | hy
          · rw [← hway] at e; exact absurd hw.symm e
          · exact ⟨y, hy, hw⟩
      have HMX := mkHid hmx
      have HSI : Hid (∀ b, own b → b < wr.heap.size) := fun b h => Nat.lt_of_lt_of_le (HS2.out.ownb b h).2 HK.out.size
      have hw1 : IntKind.i64.wrap ((i : Int) + 1) = ((i + 1 : Nat) : Int) := by rw [IntWalk.i64_in _ (by omega)]; omega
      have hrow : Hid (∀ w', Kb own wr w' → ∀ p u, p.block = ad.block → wr.cell? p = some u → w'.cell? p = some u) := fun w' hk p u hp hc => hk.cell hc (fun ho => HS2.out.dis _ (by
        have : (Value.slice (some ad) ln c).ownBlock = some ad.block := rfl
        rw [this, hp]) ho)
      clear hrd hx hox hdrop hmx hsub hne ha hb hway hbx d2
      go_wp2_with fail
      refine (drop_calls wr bt own n' m' HT.out HSI.out a b hisA.1 ha1 hb32 (by omega) (by omega) HMay.out x.f1 HMX.out).mono ?_
      rintro e w3 ⟨rfl, hT3, hK3⟩
      have e0 := hrow.out w3 hK3 (ad.add (i * 3)) _ (by simp [Addr.add]; try (split <;> rfl)) d0
      have e1 := hrow.out w3 hK3 ⟨(ad.add (i * 3)).block, (ad.add (i * 3)).off + 1, none⟩ _ (by simp [Addr.add]; try (split <;> rfl)) d1
      have HT3 := mkHid hT3
      have HK3 := mkHid (HK.out.trans hK3)
      clear hT3 hK3 d0 d1 HT HK HRr
      go_wp2_with fail
      refine (drop_none w3 bt own (n' - 1) _ HT3.out a b hisA.1 ha1 hb32 HMay.out (putM_self _ _ _)).mono ?_
      rintro e w4 ⟨rfl, hb4⟩
      have HT4 := mkHid (HT3.out.below hb4)
      have HK4 := mkHid (HK3.out.step hb4)
      clear hb4 e0 e1 HT3 HK3
      go_wp2_with fail
      go_roundg (gk - 1)
      case measure => omega
      case rel => exact ⟨i + 1, _, n' - 1, rfl, by omega, by omega, by omega, HT4.out, HK4.out, HN1.out, HN2.out⟩
    · obtain rfl : i = ln := by omega
      have hn0 : n' = 0 := by omega
      subst hn0
      have hnone : ∀ π, m' π = none := fun π => by
        cases h : m' π with
        | none => rfl
        | some u =>
          obtain ⟨x, hx, _⟩ := HM2.out π u h
          rw [HLN.out, List.drop_length] at hx; cases hx
      have HNO := mkHid hnone
      have HB3 : Hid (Below w.heap.size w wr) := HS2.out.below.trans (HK.out.below HS2.out.below.size (fun b h => (HS2.out.ownb b h).1))
      clear hnone HRr HK HM1 HM2 hn'
      go_wp2_with fail
      refine (Fold_nod wr bt own 0 m' HT.out HNO.out).mono ?_
      rintro e w5 ⟨rfl, hb5⟩
      have HT5 := mkHid (HT.out.below hb5)
      have HB5 := mkHid (below_step HB3.out hb5)
      clear hb5 HT HB3
      go_wp2_with fail
      refine (len_calls w5 bt own 0 m' HT5.out).mono ?_
      rintro e w6 ⟨rfl, rfl⟩
      go_wp2_with fail
      refine (lives_calls _).mono ?_
      rintro e w7 ⟨rfl, hb7⟩
      have HB7 := mkHid (below_step HB5.out hb7)
      clear hb7
      go_wp2_with fail
      go_ret
      exact ⟨rfl, HB7.out⟩
end Go.Proofs.Ytnihacajjpcjeaa
