/- PlistDiffers: what is left of the law, about numbers and lists alone. -/
import Derived.Test.YtndcjncamdhbfaaPIdl
import Derived.Test.YtndcjncamdhbfaaOk
import Derived.Test.YtndcjncamdhbfaaPx0
import Derived.Test.YtndcjncamdhbfaaPx21
import Derived.Test.YtndcjncamdhbfaaPx22
import Derived.Test.YtndcjncamdhbfaaPx7
namespace Go.Proofs.Ytndcjncamdhbfaa.Pure
open Go.RowKit Go.Proofs.Ytndcjncamdhbfaa.P Go.Proofs.YtndcjncamdhbfaaW.PrintWords Go.Proofs.YtndcjncamdhbfaaW.PrintLast Go.Proofs.YtndcjncamdhbfaaW.PrintMore
set_option linter.unusedVariables false
set_option linter.unusedSimpArgs false
set_option linter.unusedSectionVars false

theorem ddA_sub {α : Type} (q : α → α → Bool) : ∀ (l : List α) (p : α), (ddA q p l).Sublist l := by
  intro l
  induction l with
  | nil => intro p; exact List.Sublist.refl _
  | cons y l ih =>
    intro p
    simp only [ddA]
    split
    · exact (ih p).cons y
    · exact (ih y).cons_cons y
theorem dd_sub {α : Type} (q : α → α → Bool) (l : List α) : (dd q l).Sublist l := by
  cases l with
  | nil => exact List.Sublist.refl _
  | cons y l => exact (ddA_sub q l y).cons_cons y
theorem smpS_sorted (l : List S26) (b : Int) : (smpS l b).Pairwise fun x y => x.f0 ≤ y.f0 := by
  unfold smpS
  refine List.Pairwise.sublist (dd_sub _ _) ?_
  unfold sortS
  have h := List.pairwise_mergeSort (le := fun x y : S24 => !(ltOf ordS) y x) (by
    intro x y z h1 h2
    simp only [Bool.not_eq_true', ltS_iff, befS_false] at *
    omega) (by
    intro x y
    simp only [Bool.or_eq_true, Bool.not_eq_true', ltS_iff, befS_false]
    omega) (smp l b)
  refine h.imp ?_
  intro x y hxy
  simp only [Bool.not_eq_true', ltS_iff, befS_false] at hxy
  omega
section
variable (a b : List S26) (hoa : ∀ r ∈ a, inR r) (hob : ∀ r ∈ b, inR r) (ha : whyL a = 0) (hb : whyL b = 0)
def difB (c d : Int) : Bool := (letsL a c d).1 != (letsL b c d).1
def difP (x : S24) : Bool := difB a b x.f0 x.f1
def lk : Nat → Int → Option S24
  | 0, _ => none
  | d + 1, bb => match (smpS (a ++ b) bb).find? (difP a b) with
    | some x => some x
    | none => lk d (bb + 1)
theorem lk_none : ∀ (d : Nat) (bb : Int), lk a b d bb = none → ∀ b', bb ≤ b' → b' < bb + d → ∀ y ∈ smpS (a ++ b) b', difP a b y = false := by
  intro d
  induction d with
  | zero => intro bb _ b' h1 h2; omega
  | succ d ih =>
    intro bb h b' h1 h2 y hy
    simp only [lk] at h
    cases hf : (smpS (a ++ b) bb).find? (difP a b) with
    | some x => rw [hf] at h; cases h
    | none =>
      rw [hf] at h
      by_cases e : b' = bb
      · subst e
        simpa using List.find?_eq_none.1 hf y hy
      · exact ih (bb + 1) h b' (by omega) (by omega) y hy
theorem lk_some : ∀ (d : Nat) (bb : Int) (x : S24), lk a b d bb = some x → ∃ b', bb ≤ b' ∧ b' < bb + d ∧ x ∈ smpS (a ++ b) b' ∧ difP a b x = true ∧ (∀ b'', bb ≤ b'' → b'' < b' → ∀ y ∈ smpS (a ++ b) b'', difP a b y = false) ∧ ∀ y ∈ smpS (a ++ b) b', difP a b y = true → x.f0 ≤ y.f0 := by
  intro d
  induction d with
  | zero => intro bb x h; simp [lk] at h
  | succ d ih =>
    intro bb x h
    simp only [lk] at h
    cases hf : (smpS (a ++ b) bb).find? (difP a b) with
    | some z =>
      rw [hf] at h
      obtain rfl : z = x := Option.some.inj h
      obtain ⟨hp, us, bs, he, hno⟩ := List.find?_eq_some_iff_append.1 hf
      have hs := smpS_sorted (a ++ b) bb
      refine ⟨bb, Int.le_refl _, by omega, by rw [he]; simp, hp, fun b'' h1 h2 => by omega, fun y hy hyp => ?_⟩
      rw [he] at hy hs
      rcases List.mem_append.1 hy with hy | hy
      · have := hno y hy
        rw [hyp] at this; simp at this
      · rcases List.mem_cons.1 hy with rfl | hy
        · exact Int.le_refl _
        · exact (List.pairwise_cons.1 (List.pairwise_append.1 hs).2.1).1 y hy
    | none =>
      rw [hf] at h
      obtain ⟨b', h1, h2, h3, h4, h5, h6⟩ := ih (bb + 1) x h
      refine ⟨b', by omega, by omega, h3, h4, fun b'' k1 k2 y hy => ?_, h6⟩
      by_cases e : b'' = bb
      · subst e
        simpa using List.find?_eq_none.1 hf y hy
      · exact h5 b'' (by omega) k2 y hy
include hoa hob ha hb
theorem both_ok : (∀ r ∈ a ++ b, inR r) ∧ (∀ r ∈ a ++ b, rB r = true) ∧ (a ++ b).length ≤ 32 := by
  obtain ⟨k1, k2⟩ := whyL_ok ha
  obtain ⟨k3, k4⟩ := whyL_ok hb
  refine ⟨fun r h => (List.mem_append.1 h).elim (hoa r) (hob r), fun r h => (List.mem_append.1 h).elim (k2 r) (k4 r), ?_⟩
  rw [List.length_append]; omega
theorem dif_may (c d : Int) (h : difB a b c d = true) : mayB c d = true := by
  cases hm : mayB c d with
  | true => rfl
  | false =>
    unfold difB at h
    rw [letsL_1 a c d ha (by rw [hm]; simp), letsL_1 b c d hb (by rw [hm]; simp)] at h
    simp at h
theorem dif_like (c d : Int) (hc : isA c) (h : difB a b c d = true) : ∃ x, (⟨x, d⟩ : S24) ∈ smpS (a ++ b) d ∧ x ≤ c ∧ difB a b x d = true ∧ 0 ≤ d ∧ d ≤ 32 := by
  have hm := dif_may a b hoa hob ha hb c d h
  obtain ⟨q1, q2, _⟩ := both_ok a b hoa hob ha hb
  obtain ⟨d0, d1, _⟩ := (mayB_iff c d).1 hm
  obtain ⟨x, hx, hxc, hxA, hxM, hlike⟩ := sample_like (a ++ b) q1 q2 c d hc hm
  refine ⟨x, (mem_smpS _ _ _).2 hx, hxc, ?_, d0, d1⟩
  have e1 : firL a x d = firL a c d := firL_congr fun r hr => hlike r (List.mem_append.2 (.inl hr))
  have e2 : firL b x d = firL b c d := firL_congr fun r hr => hlike r (List.mem_append.2 (.inr hr))
  have f1 : letsL a x d = letsL a c d := by unfold letsL; rw [hxM, hm, e1]
  have f2 : letsL b x d = letsL b c d := by unfold letsL; rw [hxM, hm, e2]
  unfold difB at *
  rw [f1, f2]; exact h
theorem lk_least (c d : Int) (hc : isA c) (h : difB a b c d = true) : ∃ x, lk a b 33 0 = some x ∧ (x.f1 < d ∨ (x.f1 = d ∧ x.f0 ≤ c)) := by
  obtain ⟨x, hx, hxc, hxd, d0, d1⟩ := dif_like a b hoa hob ha hb c d hc h
  obtain ⟨q1, q2, _⟩ := both_ok a b hoa hob ha hb
  cases hk : lk a b 33 0 with
  | none =>
    have := lk_none a b 33 0 hk d d0 (by omega) _ hx
    have e : difP a b ⟨x, d⟩ = true := hxd
    rw [e] at this; cases this
  | some z =>
    obtain ⟨b', h1, h2, h3, h4, h5, h6⟩ := lk_some a b 33 0 z hk
    have hz := smpS_ok h1 (by omega) q1 q2 h3
    refine ⟨z, rfl, ?_⟩
    rw [hz.2.2]
    rcases Int.lt_trichotomy b' d with hlt | heq | hgt
    · exact .inl hlt
    · subst heq
      exact .inr ⟨rfl, Int.le_trans (h6 _ hx hxd) hxc⟩
    · have := h5 d d0 hgt _ hx
      have e : difP a b ⟨x, d⟩ = true := hxd
      rw [e] at this; cases this
theorem dif2_ev (bb : Int) (S : List S24) (hS : ∀ x ∈ S, isA x.f0) (hl : S.length ≤ 1000) (R : Int × Int × Bool × Int) (hR : Evt (fun k => plist_Differ.l1 k a b (a ++ b) false (wrap64 (bb + 1)) 0 0) R) :
    ∀ (d i : Nat), S.length - i = d → i ≤ S.length → Evt (fun k => plist_Differ.l2 k a b (a ++ b) false bb S (S.length : Int) (i : Int) 0 0) (match (S.drop i).find? (difP a b) with | some x => (x.f0, x.f1, true, 0) | none => R) := by
  intro d
  induction d with
  | zero =>
    intro i hd hi
    refine Evt.step ?_
    simp only [plist_Differ.l2]
    refine Evt.ite_neg (by omega) ?_
    rw [List.drop_eq_nil_of_le (by omega)]
    exact hR
  | succ d ih =>
    intro i hd hi
    refine Evt.step ?_
    simp only [plist_Differ.l2]
    obtain ⟨x, hx, he, hdr⟩ := drop_at (l := S) (i := i) (by omega)
    refine Evt.ite_pos (by omega) (Evt.ite_pos (by omega) (Evt.ite_pos (by omega) ?_))
    rw [rdP_at he, hdr, List.find?_cons]
    refine Evt.bind (lets_ev a _ _ hoa (hS x hx)) (Evt.bind (lets_ev b _ _ hob (hS x hx)) ?_)
    cases hdx : difP a b x with
    | true => exact Evt.ite_pos hdx (Evt.pure _)
    | false =>
      refine Evt.ite_neg (by show ¬ (difP a b x = true); rw [hdx]; simp) ?_
      have hw : wrap64 ((i : Int) + 1) = ((i + 1 : Nat) : Int) := by rw [wrap64_in _ (by omega) (by omega)]; omega
      rw [hw]
      exact ih (i + 1) (by omega) (by omega)
theorem dif1_ev : ∀ (d : Nat) (bb : Int), 33 - bb = d → 0 ≤ bb → Evt (fun k => plist_Differ.l1 k a b (a ++ b) false bb 0 0) (match lk a b d bb with | some x => (x.f0, x.f1, true, 0) | none => (0, 0, false, 0)) := by
  obtain ⟨q1, q2, q3⟩ := both_ok a b hoa hob ha hb
  intro d
  induction d with
  | zero =>
    intro bb hd b0
    refine Evt.step ?_
    simp only [plist_Differ.l1]
    exact Evt.ite_neg (by omega) (Evt.pure _)
  | succ d ih =>
    intro bb hd b0
    refine Evt.step ?_
    simp only [plist_Differ.l1]
    have hw : wrap64 (bb + 1) = bb + 1 := wrap64_in _ (by omega) (by omega)
    refine Evt.ite_pos (by omega) (Evt.bindc (samples_is (a ++ b) bb b0 (by omega) (by omega) q1 q2) ?_)
    have h0 := ih (bb + 1) (by omega) (by omega)
    have := dif2_ev a b hoa hob ha hb bb (smpS (a ++ b) bb) (fun x hx => (smpS_ok b0 (by omega) q1 q2 hx).1) (by have := smpS_len (a ++ b) bb; omega) _ (by rw [hw]; exact h0) (smpS (a ++ b) bb).length 0 (by omega) (by omega)
    rw [List.drop_zero] at this
    simp only [lk]
    cases hf : (smpS (a ++ b) bb).find? (difP a b) with
    | some x => rw [hf] at this; exact this
    | none => rw [hf] at this; exact this
end
theorem differ_ev (a b : List S26) (hoa : ∀ r ∈ a, inR r) (hob : ∀ r ∈ b, inR r) : Evt (fun k => plist_Differ.f k a b) (if whyL a = 0 then (if whyL b = 0 then (match lk a b 33 0 with | some x => (x.f0, x.f1, true, 0) | none => (0, 0, false, 0)) else (0, 0, false, whyL b)) else (0, 0, false, whyL a)) := by
  unfold plist_Differ.f
  refine Evt.bindc rfl (Evt.step ?_)
  simp only [plist_Differ.l0]
  have r0 : rd_L8 [a, b] 0 = a := rfl
  have r1 : rd_L8 [a, b] (wrap64 (0 + 1)) = b := by rw [wrap64_in _ (by omega) (by omega)]; rfl
  refine Evt.ite_pos (by simp) (Evt.ite_pos (by omega) (Evt.ite_pos (by simp) ?_))
  rw [r0]
  refine Evt.bind (plistMay_ev a hoa) ?_
  by_cases ha : whyL a = 0
  · rw [if_pos ha]
    refine Evt.ite_pos ha (Evt.step ?_)
    simp only [plist_Differ.l0]
    refine Evt.ite_pos (by rw [wrap64_in _ (by omega) (by omega)]; simp) (Evt.ite_pos (by rw [wrap64_in _ (by omega) (by omega)]; omega) (Evt.ite_pos (by rw [wrap64_in _ (by omega) (by omega)]; simp) ?_))
    rw [r1]
    refine Evt.bind (plistMay_ev b hob) ?_
    by_cases hb : whyL b = 0
    · rw [if_pos hb]
      refine Evt.ite_pos hb (Evt.step ?_)
      simp only [plist_Differ.l0]
      refine Evt.ite_neg (by rw [wrap64_in (0 + 1) (by omega) (by omega), wrap64_in _ (by omega) (by omega)]; simp) ?_
      have hcat : api_Range_40.f [a, b] = some (a ++ b) := by
        unfold api_Range_40.f
        have h1 := (whyL_ok ha).1
        have h2 := (whyL_ok hb).1
        rw [if_pos ⟨by simp, by unfold api_Range_40.sum; simp; omega⟩]; simp
      refine Evt.bindc hcat ?_
      exact dif1_ev a b hoa hob ha hb 33 0 (by omega) (by omega)
    · rw [if_neg hb]
      exact Evt.ite_neg hb (Evt.pure _)
  · rw [if_neg ha]
    exact Evt.ite_neg ha (Evt.pure _)
theorem PlistDiffers (x0 : List (S26)) (x1 : List (S26)) (x2 : S24) (ok_0 : (okL 40 (ok26)) x0) (ok_1 : (okL 40 (ok26)) x1) (ok_2 : (ok24) x2) : ∃ k, Go.Proofs.Ytndcjncamdhbfaa.P.whirligiglaw02_PlistDiffers.f k x0 x1 x2.f0 x2.f1 = some true := by
  have ho0 : ∀ x, x ∈ x0 → inR x := fun x hx => okI_u32 (ok_0.2 x hx).1.1
  have ho1 : ∀ x, x ∈ x1 → inR x := fun x hx => okI_u32 (ok_1.2 x hx).1.1
  have hc : isA x2.f0 := okI_u32 ok_2.1
  have hL : Evt (fun k => (whirligiglaw02_lives.f k).bind fun t => (some t)) true := Evt.bind lives2_ev (Evt.pure _)
  have hd := differ_ev x0 x1 ho0 ho1
  refine Evt.ex ?_
  unfold whirligiglaw02_PlistDiffers.f
  by_cases ha : whyL x0 = 0
  · rw [if_pos ha] at hd
    by_cases hb : whyL x1 = 0
    · rw [if_pos hb] at hd
      -- behind the first tests
      have last : ∀ (is : Bool) (q0 q1 : Int), (difB x0 x1 x2.f0 x2.f1 = true → is = true ∧ (q1 < x2.f1 ∨ (q1 = x2.f1 ∧ q0 ≤ x2.f0))) → Evt (fun k => whirligiglaw02_PlistDiffers.j1 k x0 x1 is false x2.f0 x2.f1 q0 q1) true := by
        intro is q0 q1 h
        refine Evt.step ?_
        simp only [whirligiglaw02_PlistDiffers.j1]
        refine Evt.ite_neg (by simp) (Evt.bind (refLets_ev x0 _ _ ho0 hc) (Evt.bind (refLets_ev x1 _ _ ho1 hc) ?_))
        cases hdf : difB x0 x1 x2.f0 x2.f1 with
        | false =>
          refine Evt.ite_pos ?_ hL
          unfold difB at hdf
          simpa using hdf
        | true =>
          obtain ⟨h1, h2⟩ := h hdf
          refine Evt.ite_neg ?_ (Evt.ite_pos h1 ?_)
          · unfold difB at hdf
            simpa using hdf
          · by_cases h3 : q1 < x2.f1
            · exact Evt.ite_pos h3 hL
            · have h4 : q1 = x2.f1 ∧ q0 ≤ x2.f0 := by rcases h2 with h | h; exact absurd h h3; exact h
              exact Evt.ite_neg h3 (Evt.ite_pos h4.1 (Evt.ite_pos h4.2 hL))
      have mid : ∀ (is : Bool) (q0 q1 : Int), isA q0 → difB x0 x1 q0 q1 = is → (is = false → q0 = 0 ∧ q1 = 0) → (difB x0 x1 x2.f0 x2.f1 = true → is = true ∧ (q1 < x2.f1 ∨ (q1 = x2.f1 ∧ q0 ≤ x2.f0))) → Evt (fun k => whirligiglaw02_PlistDiffers.j0 k x0 x1 is 0 (whyL x1) x2.f0 x2.f1 q0 q1) true := by
        intro is q0 q1 hq hdq h0 h
        refine Evt.step ?_
        simp only [whirligiglaw02_PlistDiffers.j0]
        refine Evt.ite_pos hb (Evt.bind (refLets_ev x0 _ _ ho0 hq) (Evt.bind (refLets_ev x1 _ _ ho1 hq) (Evt.ite_pos trivial ?_)))
        have e : ((letsL x0 q0 q1).1 != (letsL x1 q0 q1).1) = is := hdq
        rw [e]
        refine Evt.ite_neg (by simp) ?_
        cases is with
        | true => exact Evt.ite_pos rfl (last true q0 q1 h)
        | false =>
          obtain ⟨rfl, rfl⟩ := h0 rfl
          exact Evt.ite_neg (by simp) (last false 0 0 h)
      cases hk : lk x0 x1 33 0 with
      | some z =>
        rw [hk] at hd
        obtain ⟨q1, q2, _⟩ := both_ok x0 x1 ho0 ho1 ha hb
        obtain ⟨b', h1, h2, h3, h4, _, _⟩ := lk_some x0 x1 33 0 z hk
        have hz := smpS_ok h1 (by omega) q1 q2 h3
        refine Evt.bind hd (Evt.bind (refWhy_ev x0 ho0) (Evt.ite_pos ha (Evt.bind (refWhy_ev x1 ho1) ?_)))
        refine mid true z.f0 z.f1 hz.1 h4 (fun e => by cases e) (fun h => ⟨rfl, ?_⟩)
        obtain ⟨y, hy, hlt⟩ := lk_least x0 x1 ho0 ho1 ha hb _ _ hc h
        rw [hk] at hy
        obtain rfl := Option.some.inj hy
        exact hlt
      | none =>
        rw [hk] at hd
        refine Evt.bind hd (Evt.bind (refWhy_ev x0 ho0) (Evt.ite_pos ha (Evt.bind (refWhy_ev x1 ho1) ?_)))
        have hno : ∀ c d, isA c → difB x0 x1 c d = false := by
          intro c d hcA
          cases h : difB x0 x1 c d with
          | false => rfl
          | true =>
            obtain ⟨y, hy, _⟩ := lk_least x0 x1 ho0 ho1 ha hb _ _ hcA h
            rw [hk] at hy; cases hy
        refine mid false 0 0 ⟨Int.le_refl _, by omega⟩ (hno 0 0 ⟨Int.le_refl _, by omega⟩) (fun _ => ⟨rfl, rfl⟩) (fun h => ?_)
        rw [hno _ _ hc] at h; cases h
    · rw [if_neg hb] at hd
      refine Evt.bind hd (Evt.bind (refWhy_ev x0 ho0) (Evt.ite_pos ha (Evt.bind (refWhy_ev x1 ho1) (Evt.step ?_))))
      simp only [whirligiglaw02_PlistDiffers.j0]
      exact Evt.ite_neg hb (Evt.ite_pos (by simp) (Evt.ite_neg (by simp) (Evt.ite_pos trivial hL)))
  · rw [if_neg ha] at hd
    refine Evt.bind hd (Evt.bind (refWhy_ev x0 ho0) (Evt.ite_neg ha (Evt.step ?_)))
    simp only [whirligiglaw02_PlistDiffers.j0]
    exact Evt.ite_neg ha (Evt.ite_pos (by simp) (Evt.ite_neg (by simp) (Evt.ite_pos trivial hL)))
end Go.Proofs.Ytndcjncamdhbfaa.Pure
