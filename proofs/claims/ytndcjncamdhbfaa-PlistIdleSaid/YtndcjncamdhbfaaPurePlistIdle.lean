/- PlistIdle: what is left of the law, about numbers and lists alone. -/
import Derived.Test.YtndcjncamdhbfaaPIdl
import Derived.Test.YtndcjncamdhbfaaPLst
import Derived.Test.YtndcjncamdhbfaaOk
import Derived.Test.YtndcjncamdhbfaaPx0
import Derived.Test.YtndcjncamdhbfaaPx15
import Derived.Test.YtndcjncamdhbfaaPx17
import Derived.Test.YtndcjncamdhbfaaPx7
namespace Go.Proofs.Ytndcjncamdhbfaa.Pure
open Go.RowKit Go.Proofs.Ytndcjncamdhbfaa.P Go.Proofs.YtndcjncamdhbfaaW.PrintWords Go.Proofs.YtndcjncamdhbfaaW.PrintLast Go.Proofs.YtndcjncamdhbfaaW.PrintMore
set_option linter.unusedVariables false
set_option linter.unusedSimpArgs false
set_option linter.unusedSectionVars false

def edgL (r : S26) : List Int := [0, 4294967295, r.f0.f0, (r.f0.f0 - 1) % 4294967296, r.f0.f0 + (un r.f0.f1 - 1), (r.f0.f0 + (un r.f0.f1 - 1) + 1) % 4294967296]
theorem edgL_isA (r : S26) (h : okR r = true) : ∀ e ∈ edgL r, isA e := by
  intro e he
  have h1 := ((okR_iff r).1 h).1
  have h2 := last_isA r h
  unfold edgL at he
  simp only [List.mem_cons, List.not_mem_nil, or_false] at he
  unfold isA at *
  rcases he with rfl | rfl | rfl | rfl | rfl | rfl <;> omega
def hitE (l : List S26) (i b e : Int) : Bool := decide (firL l (floS e b) b = i)
def hitR (l : List S26) (i b : Int) (r : S26) : Bool := (edgL r).any (hitE l i b)
def anyH (l : List S26) (i : Int) : Nat → Int → Bool
  | 0, _ => false
  | d + 1, b => l.any (hitR l i b) || anyH l i d (b + 1)
theorem anyH_iff (l : List S26) (i : Int) : ∀ (d : Nat) (b : Int), anyH l i d b = true ↔ ∃ b', b ≤ b' ∧ b' < b + d ∧ ∃ r ∈ l, ∃ e ∈ edgL r, firL l (floS e b') b' = i := by
  intro d
  induction d with
  | zero =>
    intro b
    constructor
    · intro h; simp [anyH] at h
    · rintro ⟨b', h1, h2, _⟩; omega
  | succ d ih =>
    intro b
    simp only [anyH, Bool.or_eq_true, ih]
    constructor
    · rintro (h | ⟨b', h1, h2, h3⟩)
      · obtain ⟨r, hr, h⟩ := List.any_eq_true.1 h
        obtain ⟨e, he, h⟩ := List.any_eq_true.1 h
        exact ⟨b, Int.le_refl _, by omega, r, hr, e, he, of_decide_eq_true h⟩
      · exact ⟨b', by omega, by omega, h3⟩
    · rintro ⟨b', h1, h2, r, hr, e, he, h⟩
      by_cases hb : b' = b
      · subst hb
        exact .inl (List.any_eq_true.2 ⟨r, hr, List.any_eq_true.2 ⟨e, he, decide_eq_true h⟩⟩)
      · exact .inr ⟨b', by omega, by omega, r, hr, e, he, h⟩
section
variable (l : List S26) (i a : Int) (I : Bool) (ho : ∀ r ∈ l, inR r) (hr : ∀ r ∈ l, rB r = true) (hw : whyL l = 0) (ha : isA a)
include ho hr hw ha
theorem idl2_ev (b : Int) (kk : Nat) (E : List Int) (hE : ∀ e ∈ E, isA e) (hl : E.length ≤ 1000) (b0 : 0 ≤ b) (b1 : b ≤ 32) (hk : kk < l.length) :
    ∀ (d n : Nat) (f : Bool), E.length - n = d → n ≤ E.length → Evt (fun k => whirligiglaw02_PlistIdle.l1 k l i a I 0 (f || (E.drop n).any (hitE l i b)) b ((kk : Int) + 1)) true → Evt (fun k => whirligiglaw02_PlistIdle.l2 k l i a I 0 f b (kk : Int) E (n : Int)) true := by
  have hl16 := (whyL_ok hw).1
  have hw1 : wrap64 ((kk : Int) + 1) = (kk : Int) + 1 := wrap64_in _ (by omega) (by omega)
  intro d
  induction d with
  | zero =>
    intro n f hd hn hR
    refine Evt.step ?_
    simp only [whirligiglaw02_PlistIdle.l2]
    refine Evt.ite_neg (by omega) ?_
    rw [List.drop_eq_nil_of_le (by omega)] at hR
    simp only [List.any_nil, Bool.or_false] at hR
    rw [hw1]
    exact hR
  | succ d ih =>
    intro n f hd hn hR
    refine Evt.step ?_
    simp only [whirligiglaw02_PlistIdle.l2]
    obtain ⟨e, he, hx, hdr⟩ := drop_at (l := E) (i := n) (by omega)
    have hwn : wrap64 ((n : Int) + 1) = ((n + 1 : Nat) : Int) := by rw [wrap64_in _ (by omega) (by omega)]; omega
    rw [hdr, List.any_cons] at hR
    refine Evt.ite_pos (by omega) ?_
    cases f with
    | true =>
      refine Evt.ite_pos rfl ?_
      rw [hwn]
      refine ih (n + 1) true (by omega) (by omega) ?_
      simpa using hR
    | false =>
      have hrd : rd E (n : Int) = e := by
        unfold rd
        rw [show ((n : Int)).toNat = n by omega, List.getD_eq_getElem?_getD, hx]; rfl
      refine Evt.ite_neg (by simp) (Evt.ite_pos (by omega) ?_)
      rw [hrd]
      refine Evt.bind (at_ev e b (hE e he) b0 b1) (Evt.bind (refFirst_ev l (floS e b) b ho hw (floS_isA e b (hE e he))) ?_)
      rw [hwn]
      refine ih (n + 1) _ (by omega) (by omega) ?_
      have e1 : (firL l (floS e b) b == i) = hitE l i b e := rfl
      rw [e1]
      simpa using hR
theorem idl1_ev (b : Int) (b0 : 0 ≤ b) (b1 : b ≤ 32) (hI : I = true → firL l (floS a b) b ≠ i) :
    ∀ (d kk : Nat) (f : Bool), l.length - kk = d → kk ≤ l.length → Evt (fun k => whirligiglaw02_PlistIdle.l0 k l i a I 0 (f || (l.drop kk).any (hitR l i b)) (b + 1)) true → Evt (fun k => whirligiglaw02_PlistIdle.l1 k l i a I 0 f b (kk : Int)) true := by
  have hl16 := (whyL_ok hw).1
  have hwb : wrap64 (b + 1) = b + 1 := wrap64_in _ (by omega) (by omega)
  intro d
  induction d with
  | zero =>
    intro kk f hd hn hR
    refine Evt.step ?_
    simp only [whirligiglaw02_PlistIdle.l1]
    refine Evt.ite_neg (by omega) ?_
    rw [List.drop_eq_nil_of_le (by omega)] at hR
    simp only [List.any_nil, Bool.or_false] at hR
    rw [hwb]
    cases hII : I with
    | false => rw [hII] at hR; exact Evt.ite_neg (by simp) hR
    | true =>
      rw [hII] at hR
      exact Evt.ite_pos rfl (Evt.bind (at_ev a b ha b0 b1) (Evt.bind (refFirst_ev l (floS a b) b ho hw (floS_isA a b ha)) (Evt.ite_neg (hI hII) hR)))
  | succ d ih =>
    intro kk f hd hn hR
    refine Evt.step ?_
    simp only [whirligiglaw02_PlistIdle.l1]
    obtain ⟨r, hrm, hx, hdr⟩ := drop_at (l := l) (i := kk) (by omega)
    have hok := okR_of (ho r hrm) (hr r hrm)
    obtain ⟨h1, h2⟩ := (okR_iff r).1 hok
    refine Evt.ite_pos (by omega) (Evt.ite_pos (by omega) ?_)
    rw [rdR_at hx]
    refine Evt.bind (edges_ev r.f0.f0 r.f0.f1 h1 h2) ?_
    have := idl2_ev l i a I ho hr hw ha b kk (edgL r) (edgL_isA r hok) (by simp [edgL]) b0 b1 (by omega) (edgL r).length 0 f (by omega) (by omega) (by
      have h3 := ih (kk + 1) (f || (edgL r).any (hitE l i b)) (by omega) (by omega) (by
        rw [hdr, List.any_cons] at hR
        rw [Bool.or_assoc]
        exact hR)
      exact h3)
    exact this
theorem idl0_ev (hI : I = true → ∀ b, 0 ≤ b → b ≤ 32 → firL l (floS a b) b ≠ i) (hL : Evt (fun k => whirligiglaw02_lives.f k) true) :
    ∀ (d : Nat) (b : Int) (f : Bool), 33 - b = d → 0 ≤ b → I = !(f || anyH l i d b) → Evt (fun k => whirligiglaw02_PlistIdle.l0 k l i a I 0 f b) true := by
  intro d
  induction d with
  | zero =>
    intro b f hd b0 hf
    refine Evt.step ?_
    simp only [whirligiglaw02_PlistIdle.l0]
    refine Evt.ite_neg (by omega) (Evt.ite_pos trivial (Evt.ite_pos ?_ (Evt.bind hL (Evt.pure _))))
    rw [hf]; simp [anyH]
  | succ d ih =>
    intro b f hd b0 hf
    refine Evt.step ?_
    simp only [whirligiglaw02_PlistIdle.l0]
    refine Evt.ite_pos (by omega) ?_
    have := idl1_ev l i a I ho hr hw ha b b0 (by omega) (fun h => hI h b b0 (by omega)) l.length 0 f (by omega) (by omega) (by
      refine ih (b + 1) _ (by omega) (by omega) ?_
      rw [hf]
      simp only [anyH, List.drop_zero, Bool.or_assoc])
    exact this
end
theorem PlistIdle (x0 : List (S26)) (x1 : Int) (x2 : Int) (ok_0 : (okL 40 (ok26)) x0) (ok_1 : (okI .i64) x1) (ok_2 : (okI .u32) x2) : ∃ k, Go.Proofs.Ytndcjncamdhbfaa.P.whirligiglaw02_PlistIdle.f k x0 x1 x2 = some true := by
  have ho : ∀ x, x ∈ x0 → inR x := fun x hx => okI_u32 (ok_0.2 x hx).1.1
  have hc : isA x2 := okI_u32 ok_2
  have hL : Evt (fun k => whirligiglaw02_lives.f k) true := lives2_ev
  refine Evt.ex ?_
  unfold whirligiglaw02_PlistIdle.f
  by_cases hw : whyL x0 = 0
  · obtain ⟨hl16, hr⟩ := whyL_ok hw
    by_cases h1 : x1 < 0
    · have hI : Evt (fun k => plist_Idle.f k x0 x1) (false, 7) := by
        unfold plist_Idle.f
        exact Evt.bind (plistMay_ev x0 ho) (Evt.ite_pos hw (Evt.ite_pos h1 (Evt.pure _)))
      refine Evt.bind hI (Evt.bind (refWhy_ev x0 ho) (Evt.ite_pos hw (Evt.ite_pos h1 (Evt.step ?_))))
      simp only [whirligiglaw02_PlistIdle.j0]
      exact Evt.ite_pos trivial (Evt.ite_neg (by simp) (Evt.ite_pos trivial (Evt.bind hL (Evt.pure _))))
    · by_cases h2 : x1 ≥ (x0.length : Int)
      · have hI : Evt (fun k => plist_Idle.f k x0 x1) (false, 7) := by
          unfold plist_Idle.f
          exact Evt.bind (plistMay_ev x0 ho) (Evt.ite_pos hw (Evt.ite_neg h1 (Evt.ite_pos h2 (Evt.pure _))))
        refine Evt.bind hI (Evt.bind (refWhy_ev x0 ho) (Evt.ite_pos hw (Evt.ite_neg h1 (Evt.step ?_))))
        simp only [whirligiglaw02_PlistIdle.j0]
        exact Evt.ite_pos (decide_eq_true h2) (Evt.ite_neg (by simp) (Evt.ite_pos trivial (Evt.bind hL (Evt.pure _))))
      · obtain ⟨i, rfl⟩ : ∃ i : Nat, x1 = i := ⟨x1.toNat, by omega⟩
        have hil : i < x0.length := by omega
        obtain ⟨t, ht⟩ : ∃ t, t = x0.take (i + 1) := ⟨_, rfl⟩
        have htl : t.length = i + 1 := by rw [ht, List.length_take]; omega
        have hot : ∀ r ∈ t, inR r := fun r h => ho r (List.mem_of_mem_take (by rw [ht] at h; exact h))
        have hrt : ∀ r ∈ t, rB r = true := fun r h => hr r (List.mem_of_mem_take (by rw [ht] at h; exact h))
        have hw1 : wrap64 ((i : Int) + 1) = ((i + 1 : Nat) : Int) := by rw [wrap64_in _ (by omega) (by omega)]; omega
        have hI : Evt (fun k => plist_Idle.f k x0 (i : Int)) (idlL t, 0) := by
          unfold plist_Idle.f
          refine Evt.bind (plistMay_ev x0 ho) (Evt.ite_pos hw (Evt.ite_neg h1 (Evt.ite_neg h2 ?_)))
          rw [hw1]
          refine Evt.ite_pos (by omega) (Evt.ite_pos (by omega) ?_)
          rw [show ((((i + 1 : Nat) : Int)) : Int).toNat = i + 1 by omega, ← ht]
          exact Evt.bind (idle_ev t hot hrt (by omega) (by omega)) (Evt.pure _)
        have hiff := idlL_iff t hot hrt (by omega)
        rw [htl, show i + 1 - 1 = i by omega] at hiff
        -- the first rule met of a list's beginning
        have hfir : ∀ c d, firL x0 c d = (i : Int) ↔ firL t c d = (i : Int) := by
          intro c d
          have key : ∀ L : List S26, firL L c d = (i : Int) ↔ ∃ x, L[i]? = some x ∧ mB c d x = true ∧ ∀ j, j < i → ∀ y, L[j]? = some y → mB c d y = false := by
            intro L
            constructor
            · intro h
              unfold firL idxB at h
              cases e : L.findIdx? (mB c d) with
              | none => rw [e] at h; exact absurd h (by show ¬ ((-1 : Int) = (i : Int)); omega)
              | some q =>
                rw [e] at h
                have hq : q = i := by have : (q : Int) = i := h; omega
                subst hq
                obtain ⟨hi, hp, hlt⟩ := List.findIdx?_eq_some_iff_getElem.1 e
                refine ⟨L[q], List.getElem?_eq_getElem hi, hp, fun j hj y hy => ?_⟩
                have := hlt j hj
                rw [List.getElem?_eq_getElem (h := by omega)] at hy
                cases hy
                simpa using this
            · rintro ⟨x, hx, hp, hall⟩
              exact idxB_at _ _ i x hx hp (fun j y hj hy => hall j hj y hy)
          rw [key, key]
          have hget : ∀ j, j < i + 1 → t[j]? = x0[j]? := fun j hj => by rw [ht, List.getElem?_take_of_lt hj]
          constructor
          · rintro ⟨x, hx, hp, hall⟩
            exact ⟨x, by rw [hget i (by omega)]; exact hx, hp, fun j hj y hy => hall j hj y (by rw [← hget j (by omega)]; exact hy)⟩
          · rintro ⟨x, hx, hp, hall⟩
            exact ⟨x, by rw [← hget i (by omega)]; exact hx, hp, fun j hj y hy => hall j hj y (by rw [hget j (by omega)]; exact hy)⟩
        have hflo : ∀ e b, isA e → 0 ≤ b → b ≤ 32 → isA (floS e b) ∧ mayB (floS e b) b = true := fun e b he b0 b1 => flo_ok e b he b0 b1
        refine Evt.bind hI (Evt.bind (refWhy_ev x0 ho) (Evt.ite_pos hw (Evt.ite_neg h1 (Evt.step ?_))))
        simp only [whirligiglaw02_PlistIdle.j0]
        refine Evt.ite_neg (by simpa using h2) ?_
        refine idl0_ev x0 (i : Int) x2 (idlL t) ho hr hw hc ?_ hL 33 0 false (by omega) (by omega) ?_
        · intro h b b0 b1 hf
          obtain ⟨k1, k2⟩ := hflo x2 b hc b0 b1
          exact hiff.1 h _ _ k1 k2 ((hfir _ _).1 hf)
        · rw [Bool.false_or]
          cases hA : anyH x0 (i : Int) 33 0 with
          | true =>
            obtain ⟨b', q1, q2, r, hrm, e, he, hf⟩ := (anyH_iff _ _ _ _).1 hA
            have hea := edgL_isA r (okR_of (ho r hrm) (hr r hrm)) e he
            obtain ⟨k1, k2⟩ := hflo e b' hea q1 (by omega)
            cases hid : idlL t with
            | false => rfl
            | true => exact absurd ((hfir _ _).1 hf) (hiff.1 hid _ _ k1 k2)
          | false =>
            show idlL t = true
            rw [hiff]
            intro c d hcA hm hf
            obtain ⟨d0, d1, _⟩ := (mayB_iff c d).1 hm
            obtain ⟨x, hx, _, _, _, hlike⟩ := sample_like t hot hrt c d hcA hm
            obtain ⟨_, e, he, hxe⟩ := smp_bits hx
            have hxf : firL t (floS e d) d = (i : Int) := by
              rw [← show x = floS e d from hxe, firL_congr hlike, hf]
            have hno : anyH x0 (i : Int) 33 0 = true := by
              rw [anyH_iff]
              unfold edg at he
              rcases List.mem_cons.1 he with rfl | he
              · obtain ⟨r, hrm⟩ : ∃ r, r ∈ x0 := ⟨x0[i], List.getElem_mem hil⟩
                exact ⟨d, d0, by omega, r, hrm, 0, by simp [edgL], (hfir _ _).2 hxf⟩
              · obtain ⟨r, hrm, he⟩ := List.mem_flatMap.1 he
                have hrm2 : r ∈ x0 := List.mem_of_mem_take (by rw [ht] at hrm; exact hrm)
                have hlt := last_isA r (okR_of (ho r hrm2) (hr r hrm2))
                have hun := un_pos r.f0.f1
                refine ⟨d, d0, by omega, r, hrm2, e, ?_, (hfir _ _).2 hxf⟩
                unfold edg1 at he
                rcases List.mem_cons.1 he with rfl | he
                · simp [edgL]
                · split at he
                  · cases he
                  · rcases List.mem_singleton.1 he with rfl
                    have hA0 := (ho r hrm2).1
                    have : r.f0.f0 + un r.f0.f1 = (r.f0.f0 + (un r.f0.f1 - 1) + 1) % 4294967296 := by
                      rw [Int.emod_eq_of_lt (by omega) (by have := hlt.2; omega)]; omega
                    rw [this]; simp [edgL]
            rw [hA] at hno; cases hno
  · have hI : Evt (fun k => plist_Idle.f k x0 x1) (false, whyL x0) := by
      unfold plist_Idle.f
      exact Evt.bind (plistMay_ev x0 ho) (Evt.ite_neg hw (Evt.pure _))
    exact Evt.bind hI (Evt.bind (refWhy_ev x0 ho) (Evt.ite_neg hw (Evt.ite_neg (by simp) (Evt.bind (refWhy_ev x0 ho) (Evt.ite_pos rfl (Evt.bind hL (Evt.pure _)))))))
end Go.Proofs.Ytndcjncamdhbfaa.Pure
