/- PlistBare: what is left of the law, about numbers and lists alone. -/
import Derived.Test.YtndcjncamdhbfaaPIdl
import Derived.Test.YtndcjncamdhbfaaOk
import Derived.Test.YtndcjncamdhbfaaPx0
import Derived.Test.YtndcjncamdhbfaaPx15
import Derived.Test.YtndcjncamdhbfaaPx18
import Derived.Test.YtndcjncamdhbfaaPx19
import Derived.Test.YtndcjncamdhbfaaPx20
import Derived.Test.YtndcjncamdhbfaaPx7
namespace Go.Proofs.Ytndcjncamdhbfaa.Pure
open Go.RowKit Go.Proofs.Ytndcjncamdhbfaa.P Go.Proofs.YtndcjncamdhbfaaW.PrintWords Go.Proofs.YtndcjncamdhbfaaW.PrintLast Go.Proofs.YtndcjncamdhbfaaW.PrintMore
set_option linter.unusedVariables false
set_option linter.unusedSimpArgs false

/-- does the first rule that is met let pass? -/
def pas (l : List S26) (c d : Int) : Bool := match l.find? (mB c d) with
  | some r => r.f3
  | none => false
theorem find_idx {α : Type} (p : α → Bool) (l : List α) : l.find? p = match l.findIdx? p with
    | some i => l[i]?
    | none => none := by
  cases h : l.findIdx? p with
  | none =>
    rw [List.findIdx?_eq_none_iff] at h
    exact List.find?_eq_none.2 (fun x hx => by simpa using h x hx)
  | some i =>
    obtain ⟨hi, hp, hlt⟩ := List.findIdx?_eq_some_iff_getElem.1 h
    show l.find? p = l[i]?
    rw [List.getElem?_eq_getElem hi]
    exact List.find?_eq_some_iff_getElem.2 ⟨hp, i, hi, rfl, fun j hj => by simpa using hlt j hj⟩
theorem lets_pas (l : List S26) (c d : Int) (hw : whyL l = 0) (hm : mayB c d = true) : (letsL l c d).1 = pas l c d := by
  unfold letsL pas
  rw [if_pos hw, if_pos hm, find_idx]
  unfold firL idxB
  cases h : l.findIdx? (mB c d) with
  | none => rfl
  | some i =>
    obtain ⟨hi, _, _⟩ := List.findIdx?_eq_some_iff_getElem.1 h
    show (if 0 ≤ (i : Int) then _ else _ : Bool × Int).1 = match l[i]? with | some r => r.f3 | none => false
    rw [if_pos (by omega), List.getElem?_eq_getElem hi]
    show (rd_T26 l (i : Int)).f3 = _
    rw [rdR_at (List.getElem?_eq_getElem hi)]
theorem firL_last (out : List S26) (r : S26) (c d : Int) (h : out.find? (mB c d) = none) (hr : mB c d r = true) : firL (out ++ [r]) c d = ((out ++ [r]).length - 1 : Nat) := by
  unfold firL
  have hlen : (out ++ [r]).length - 1 = out.length := by simp
  rw [hlen]
  exact idxB_at _ _ out.length r (by simp) hr (fun j y hj hy => by
    rw [List.getElem?_append_left hj] at hy
    simpa using List.find?_eq_none.1 h y (List.mem_of_getElem? hy))
def bareG : List S26 → List S26 → List S26
  | out, [] => out
  | out, r :: l => if idlL (out ++ [r]) = true then bareG out l else bareG (out ++ [r]) l
theorem bareG_ext : ∀ (l out : List S26), ∃ s, bareG out l = out ++ s ∧ s.Sublist l := by
  intro l
  induction l with
  | nil => intro out; exact ⟨[], by simp [bareG], List.Sublist.refl _⟩
  | cons r l ih =>
    intro out
    simp only [bareG]
    by_cases h : idlL (out ++ [r]) = true
    · rw [if_pos h]
      obtain ⟨s, e, hs⟩ := ih out
      exact ⟨s, e, hs.cons r⟩
    · rw [if_neg h]
      obtain ⟨s, e, hs⟩ := ih (out ++ [r])
      exact ⟨r :: s, by rw [e]; simp, hs.cons_cons r⟩
theorem bareG_pas (c d : Int) (hc : isA c) (hm : mayB c d = true) : ∀ (l out : List S26), (∀ r ∈ out ++ l, inR r) → (∀ r ∈ out ++ l, rB r = true) → pas (bareG out l) c d = pas (out ++ l) c d := by
  intro l
  induction l with
  | nil => intro out _ _; simp [bareG]
  | cons r l ih =>
    intro out ho hr
    simp only [bareG]
    have hsub : ∀ x, x ∈ out ++ [r] → x ∈ out ++ r :: l := fun x hx => by simp at hx ⊢; rcases hx with h | h <;> simp [h]
    have hsub2 : ∀ x, x ∈ out ++ l → x ∈ out ++ r :: l := fun x hx => by simp at hx ⊢; rcases hx with h | h <;> simp [h]
    by_cases h : idlL (out ++ [r]) = true
    · rw [if_pos h, ih out (fun x hx => ho x (hsub2 x hx)) (fun x hx => hr x (hsub2 x hx))]
      have hno := (idlL_iff (out ++ [r]) (fun x hx => ho x (hsub x hx)) (fun x hx => hr x (hsub x hx)) (by simp)).1 h c d hc hm
      unfold pas
      rw [List.find?_append, List.find?_append]
      cases hf : out.find? (mB c d) with
      | some y => rfl
      | none =>
        have : mB c d r = false := by
          cases hb : mB c d r with
          | false => rfl
          | true => exact absurd (firL_last out r c d hf hb) hno
        rw [List.find?_cons, this]
    · rw [if_neg h, ih (out ++ [r]) (fun x hx => ho x (by simpa using hx)) (fun x hx => hr x (by simpa using hx))]
      simp
def NI (b : List S26) : Prop := ∀ i, i < b.length → idlL (b.take (i + 1)) = false
theorem bareG_NI : ∀ (l out : List S26), NI out → NI (bareG out l) := by
  intro l
  induction l with
  | nil => intro out h; exact h
  | cons r l ih =>
    intro out h
    simp only [bareG]
    by_cases hi : idlL (out ++ [r]) = true
    · rw [if_pos hi]; exact ih out h
    · rw [if_neg hi]
      refine ih _ (fun i hl => ?_)
      by_cases e : i < out.length
      · rw [List.take_append_of_le_length (by omega)]; exact h i e
      · simp at hl
        obtain rfl : i = out.length := by omega
        rw [List.take_of_length_le (by simp)]
        simpa using hi
theorem bareG_self (b : List S26) (h : NI b) : ∀ (d j : Nat), b.length - j = d → j ≤ b.length → bareG (b.take j) (b.drop j) = b := by
  intro d
  induction d with
  | zero =>
    intro j hd hj
    rw [List.drop_eq_nil_of_le (by omega), List.take_of_length_le (by omega)]; rfl
  | succ d ih =>
    intro j hd hj
    obtain ⟨x, hx, he, hdr⟩ := drop_at (l := b) (i := j) (by omega)
    rw [hdr]
    simp only [bareG]
    have e : b.take j ++ [x] = b.take (j + 1) := by rw [List.take_add_one, he]; rfl
    rw [e, if_neg (by rw [h j (by omega)]; simp)]
    exact ih (j + 1) (by omega) (by omega)
theorem bare0_ev (l : List S26) (ho : ∀ r ∈ l, inR r) (hr : ∀ r ∈ l, rB r = true) (hl : l.length ≤ 16) :
    ∀ (d j : Nat) (out : List S26), l.length - j = d → j ≤ l.length → out.length ≤ j → (∀ r ∈ out, inR r) → (∀ r ∈ out, rB r = true) → Evt (fun k => plist_Bare.l0 k out l (l.length : Int) (j : Int)) (bareG out (l.drop j), 0) := by
  intro d
  induction d with
  | zero =>
    intro j out hd hj hlo ho2 hr2
    refine Evt.step ?_
    simp only [plist_Bare.l0]
    refine Evt.ite_neg (by omega) (Evt.of fun k => ?_)
    rw [List.drop_eq_nil_of_le (by omega)]; rfl
  | succ d ih =>
    intro j out hd hj hlo ho2 hr2
    refine Evt.step ?_
    simp only [plist_Bare.l0]
    obtain ⟨x, hx, he, hdr⟩ := drop_at (l := l) (i := j) (by omega)
    have hw : wrap64 ((j : Int) + 1) = ((j + 1 : Nat) : Int) := by rw [wrap64_in _ (by omega) (by omega)]; omega
    have hoa : ∀ r ∈ out ++ [x], inR r := fun r h => by simp at h; rcases h with h | rfl; exact ho2 r h; exact ho _ hx
    have hra : ∀ r ∈ out ++ [x], rB r = true := fun r h => by simp at h; rcases h with h | rfl; exact hr2 r h; exact hr _ hx
    refine Evt.ite_pos (by omega) (Evt.ite_pos (by omega) (Evt.ite_pos (by omega) ?_))
    rw [rdR_at he, hdr]
    refine Evt.bindc (show api_Range_39.f out = some out by unfold api_Range_39.f; rw [if_pos (by omega)]) (Evt.bindc (show _ = some [x] from rfl) (Evt.ite_pos (by simp; omega) (Evt.bindc rfl (Evt.bind (idle_ev (out ++ [x]) hoa hra (by simp; omega) (by simp)) ?_))))
    rw [hw]
    simp only [bareG]
    by_cases h : idlL (out ++ [x]) = true
    · rw [if_pos h]
      exact Evt.ite_pos h (ih (j + 1) out (by omega) (by omega) (by omega) ho2 hr2)
    · rw [if_neg h]
      exact Evt.ite_neg h (ih (j + 1) _ (by omega) (by omega) (by simp; omega) hoa hra)
theorem bare_ev (l : List S26) (ho : ∀ r ∈ l, inR r) (hw : whyL l = 0) : Evt (fun k => plist_Bare.f k l) (bareG [] l, 0) := by
  obtain ⟨hl, hr⟩ := whyL_ok hw
  unfold plist_Bare.f
  exact Evt.bind (plistMay_ev l ho) (Evt.ite_pos hw (bare0_ev l ho hr hl l.length 0 [] (by omega) (by omega) (by simp) (fun _ h => by cases h) (fun _ h => by cases h)))
theorem Idle_ev (l : List S26) (ho : ∀ r ∈ l, inR r) (hw : whyL l = 0) (i : Nat) (hil : i < l.length) : Evt (fun k => plist_Idle.f k l (i : Int)) (idlL (l.take (i + 1)), 0) := by
  obtain ⟨hl, hr⟩ := whyL_ok hw
  have hw1 : wrap64 ((i : Int) + 1) = ((i + 1 : Nat) : Int) := by rw [wrap64_in _ (by omega) (by omega)]; omega
  unfold plist_Idle.f
  refine Evt.bind (plistMay_ev l ho) (Evt.ite_pos hw (Evt.ite_neg (by omega) (Evt.ite_neg (by omega) ?_)))
  rw [hw1]
  refine Evt.ite_pos (by omega) (Evt.ite_pos (by omega) ?_)
  rw [show ((((i + 1 : Nat) : Int)) : Int).toNat = i + 1 by omega]
  exact Evt.bind (idle_ev _ (fun r h => ho r (List.mem_of_mem_take h)) (fun r h => hr r (List.mem_of_mem_take h)) (by rw [List.length_take]; omega) (by rw [List.length_take]; omega)) (Evt.pure _)
theorem neR_iff (x y : S26) : ((!(x.f0.f0 == y.f0.f0) || !(x.f0.f1 == y.f0.f1)) || (!(x.f1 == y.f1) || (!(x.f2 == y.f2) || !(x.f3 == y.f3)))) = true ↔ x ≠ y := by
  obtain ⟨⟨a, b⟩, g, l, p⟩ := x
  obtain ⟨⟨a', b'⟩, g', l', p'⟩ := y
  simp
  constructor
  · rintro h rfl rfl rfl rfl
    simpa using h
  · intro h
    by_cases h1 : a = a' <;> by_cases h2 : b = b' <;> by_cases h3 : g = g' <;> by_cases h4 : l = l' <;> simp_all
theorem same_ev (b : List S26) (hl : b.length ≤ 16) : ∀ (d i : Nat), b.length - i = d → i ≤ b.length → Evt (fun k => whirligigref02_Same.l0 k b b (i : Int)) true := by
  intro d
  induction d with
  | zero =>
    intro i hd hi
    refine Evt.step ?_
    simp only [whirligigref02_Same.l0]
    exact Evt.ite_neg (by omega) (Evt.pure _)
  | succ d ih =>
    intro i hd hi
    refine Evt.step ?_
    simp only [whirligigref02_Same.l0]
    obtain ⟨x, hx, he, hdr⟩ := drop_at (l := b) (i := i) (by omega)
    refine Evt.ite_pos (by omega) (Evt.ite_pos (by omega) (Evt.ite_pos (by omega) ?_))
    rw [rdR_at he]
    refine Evt.ite_neg (fun h => (neR_iff x x).1 h rfl) ?_
    rw [wrap64_in _ (by omega) (by omega)]
    have := ih (i + 1) (by omega) (by omega)
    exact this
section
variable (l b : List S26) (ho : ∀ r ∈ b, inR r) (hw : whyL b = 0) (hl : l.length ≤ 16) (hn : NI b)
include ho hw hl hn
theorem bl_ev (hL : Evt (fun k => whirligiglaw02_lives.f k) true) : ∀ (d kk i : Nat), l.length - kk = d → kk ≤ l.length → i ≤ b.length → (b.drop i).Sublist (l.drop kk) →
    Evt (fun k => whirligiglaw02_PlistBare.l0 k l b (kk : Int) (i : Int)) true ∧ (i < b.length → Evt (fun k => whirligiglaw02_PlistBare.l1 k l b (kk : Int) (i : Int)) true) := by
  obtain ⟨hb16, hr⟩ := whyL_ok hw
  have hend : Evt (fun k => (plist_Bare.f k b).bind fun bt327 => (if bt327.2 = 0 then ((whirligigref02_Same.f k bt327.1 b).bind fun t331 => (if t331 = true then ((whirligiglaw02_lives.f k).bind fun t332 => (some t332)) else (some false))) else (some false))) true := by
    refine Evt.bind (bare_ev b ho hw) (Evt.ite_pos rfl ?_)
    have e : bareG [] b = b := bareG_self b hn b.length 0 (by omega) (by omega)
    rw [e]
    refine Evt.bind (?_ : Evt (fun k => whirligigref02_Same.f k b b) true) (Evt.ite_pos rfl (Evt.bind hL (Evt.pure _)))
    unfold whirligigref02_Same.f
    exact Evt.ite_pos rfl (same_ev b hb16 b.length 0 (by omega) (by omega))
  have h0 : ∀ (kk i : Nat), i ≤ b.length → (i < b.length → Evt (fun k => whirligiglaw02_PlistBare.l1 k l b (kk : Int) (i : Int)) true) → Evt (fun k => whirligiglaw02_PlistBare.l0 k l b (kk : Int) (i : Int)) true := by
    intro kk i hi h1
    refine Evt.step ?_
    simp only [whirligiglaw02_PlistBare.l0]
    by_cases h : i < b.length
    · exact Evt.ite_pos (by omega) (h1 h)
    · exact Evt.ite_neg (by omega) hend
  intro d
  induction d with
  | zero =>
    intro kk i hd hk hi hs
    have : i < b.length → Evt (fun k => whirligiglaw02_PlistBare.l1 k l b (kk : Int) (i : Int)) true := by
      intro h
      rw [List.drop_eq_nil_of_le (show l.length ≤ kk by omega)] at hs
      have := List.sublist_nil.1 hs
      rw [List.drop_eq_nil_iff] at this
      omega
    exact ⟨h0 kk i hi this, this⟩
  | succ d ih =>
    intro kk i hd hk hi hs
    have : i < b.length → Evt (fun k => whirligiglaw02_PlistBare.l1 k l b (kk : Int) (i : Int)) true := by
      intro h
      obtain ⟨x, hx, he, hdr⟩ := drop_at (l := b) (i := i) h
      obtain ⟨y, hy, hey, hdry⟩ := drop_at (l := l) (i := kk) (by omega)
      have hw1 : wrap64 ((kk : Int) + 1) = ((kk + 1 : Nat) : Int) := by rw [wrap64_in _ (by omega) (by omega)]; omega
      have hw2 : wrap64 ((i : Int) + 1) = ((i + 1 : Nat) : Int) := by rw [wrap64_in _ (by omega) (by omega)]; omega
      rw [hdr, hdry] at hs
      refine Evt.step ?_
      simp only [whirligiglaw02_PlistBare.l1]
      refine Evt.ite_pos (by omega) (Evt.ite_pos (by omega) (Evt.ite_pos (by omega) (Evt.ite_pos (by omega) ?_)))
      rw [rdR_at he, rdR_at hey, hw1, hw2]
      by_cases hxy : y = x
      · refine Evt.ite_neg (fun hh => (neR_iff y x).1 hh hxy) ?_
        refine Evt.bind (Idle_ev b ho hw i h) (Evt.ite_neg (by omega) (Evt.ite_neg (by rw [hn i h]; simp) (Evt.ite_pos rfl ?_)))
        rw [hxy, List.cons_sublist_cons] at hs
        exact (ih (kk + 1) (i + 1) (by omega) (by omega) (by omega) hs).1
      · refine Evt.ite_pos ((neR_iff y x).2 hxy) ?_
        have hs2 : (b.drop i).Sublist (l.drop (kk + 1)) := by
          rw [hdr]
          rcases hs with _ | ⟨_, h3⟩ | ⟨_, h3⟩
          · assumption
          · exact absurd rfl hxy
        exact (ih (kk + 1) i (by omega) (by omega) hi hs2).2 h
    exact ⟨h0 kk i hi this, this⟩
end
theorem PlistBare (x0 : List (S26)) (x1 : S24) (ok_0 : (okL 40 (ok26)) x0) (ok_1 : (ok24) x1) : ∃ k, Go.Proofs.Ytndcjncamdhbfaa.P.whirligiglaw02_PlistBare.f k x0 x1.f0 x1.f1 = some true := by
  have ho : ∀ x, x ∈ x0 → inR x := fun x hx => okI_u32 (ok_0.2 x hx).1.1
  have hc : isA x1.f0 := okI_u32 ok_1.1
  have hL : Evt (fun k => whirligiglaw02_lives.f k) true := lives2_ev
  refine Evt.ex ?_
  unfold whirligiglaw02_PlistBare.f
  by_cases hw : whyL x0 = 0
  · obtain ⟨hl16, hr⟩ := whyL_ok hw
    obtain ⟨b, hb⟩ : ∃ b, b = bareG [] x0 := ⟨_, rfl⟩
    have hbe := bare_ev x0 ho hw
    rw [← hb] at hbe
    obtain ⟨s, hs, hsub⟩ := bareG_ext x0 []
    rw [List.nil_append, ← hb] at hs
    rw [← hs] at hsub
    have hob : ∀ r ∈ b, inR r := fun r h => ho r (hsub.subset h)
    have hwb : whyL b = 0 := whyL_of (Nat.le_trans hsub.length_le hl16) (fun r h => hr r (hsub.subset h))
    have hn : NI b := by rw [hb]; exact bareG_NI x0 [] (fun i h => by simp at h)
    have hlets : (letsL x0 x1.f0 x1.f1).1 = (letsL b x1.f0 x1.f1).1 := by
      by_cases hm : mayB x1.f0 x1.f1 = true
      · rw [lets_pas x0 _ _ hw hm, lets_pas b _ _ hwb hm, hb]
        have := bareG_pas x1.f0 x1.f1 hc hm x0 [] (by simpa using ho) (by simpa using hr)
        rw [this, List.nil_append]
      · rw [letsL_1 _ _ _ hw hm, letsL_1 _ _ _ hwb hm]
    refine Evt.bind hbe (Evt.bind (plistMay_ev x0 ho) (Evt.ite_pos hw (Evt.bind (lets_ev x0 _ _ ho hc) (Evt.bind (lets_ev b _ _ hob hc) (Evt.ite_pos rfl (Evt.step ?_))))))
    simp only [whirligiglaw02_PlistBare.j0]
    refine Evt.ite_neg (by rw [hlets]; simp) ?_
    exact (bl_ev x0 b hob hwb hl16 hn hL x0.length 0 0 (by omega) (by omega) (by omega) (by simpa using hsub)).1
  · have hbe : Evt (fun k => plist_Bare.f k x0) ([], whyL x0) := by
      unfold plist_Bare.f
      exact Evt.bind (plistMay_ev x0 ho) (Evt.ite_neg hw (Evt.pure _))
    exact Evt.bind hbe (Evt.bind (plistMay_ev x0 ho) (Evt.ite_neg hw (Evt.ite_pos rfl (Evt.bind (plistMay_ev x0 ho) (Evt.ite_pos rfl (Evt.bind hL (Evt.pure _)))))))
end Go.Proofs.Ytndcjncamdhbfaa.Pure
