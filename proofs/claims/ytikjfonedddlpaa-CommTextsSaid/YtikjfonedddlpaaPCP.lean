/- A community of a text, in lists of bytes alone. -/
import Derived.Test.YtikjfonedddlpaaPNum
import Derived.Test.YtikjfonedddlpaaPComm
import Derived.Test.YtikjfonedddlpaaPx10
import Derived.Test.YtikjfonedddlpaaPx11
import Derived.Test.YtikjfonedddlpaaPx12
import Derived.Test.YtikjfonedddlpaaPx2
namespace Go.Proofs.Ytikjfonedddlpaa.P
open Go.RowKit Go.Proofs.YtikjfonedddlpaaW.PrintWords Go.Proofs.YtikjfonedddlpaaW.PrintLast Go.Proofs.YtikjfonedddlpaaW.PrintMore
set_option linter.unusedVariables false
set_option linter.unusedSimpArgs false

def neL : List UInt8 := [110, 111, 45, 101, 120, 112, 111, 114, 116]
def naL : List UInt8 := [110, 111, 45, 97, 100, 118, 101, 114, 116, 105, 115, 101]
def loL : List UInt8 := [108, 111, 99, 97, 108]
/-- numbers of two texts -/
def twoL (x y : Int × Bool) : Int × Int × Int := if x.2 = true ∧ y.2 = true then (if mayCB x.1 y.1 = true then (x.1, y.1, 0) else (0, 0, 7)) else (0, 0, 4)
def partL (s : List UInt8) : Int × Int × Int :=
  if 0 ≤ Lib.indexByte s 58 then twoL (numL 1000000 (s.take (Lib.indexByte s 58).toNat)) (numL 1000000 (s.drop ((Lib.indexByte s 58).toNat + 1))) else (0, 0, 4)
def parL (s : List UInt8) : Int × Int × Int := if s = neL then (65535, 65281, 0) else if s = naL then (65535, 65282, 0) else if s = loL then (65535, 65283, 0) else partL s
theorem cNum_is (l : List UInt8) (h : l.length ≤ 100000) : comm_number.f (tx l) = some (numL 1000000 l) := by
  unfold comm_number.f
  rw [if_pos (by rw [tx_size]; omega)]; rfl
theorem parse_ev (s : List UInt8) (hs : s.length ≤ 5000) : Evt (fun k => comm_Parse.f k (tx s)) (parL s) := by
  have J : ∀ x y : Int × Bool, Evt (fun k => if x.2 = true then comm_Parse.j0 k x.1 y.1 (!y.2) else comm_Parse.j0 k x.1 y.1 true) (twoL x y) := by
    intro x y
    unfold twoL
    by_cases hx : x.2 = true
    · refine Evt.ite_pos hx (Evt.step ?_)
      simp only [comm_Parse.j0]
      by_cases hy : y.2 = true
      · refine Evt.ite_neg (by rw [hy]; simp) (Evt.bindc (commMay_is _ _) ?_)
        rw [show (if x.2 = true ∧ y.2 = true then (if mayCB x.1 y.1 = true then (x.1, y.1, 0) else (0, 0, 7)) else ((0, 0, 4) : Int × Int × Int)) = (if mayCB x.1 y.1 = true then (x.1, y.1, 0) else (0, 0, 7)) from if_pos ⟨hx, hy⟩]
        by_cases hm : mayCB x.1 y.1 = true
        · refine Evt.ite_pos hm ?_
          rw [if_pos hm]; exact Evt.pure _
        · refine Evt.ite_neg hm ?_
          rw [if_neg hm]; exact Evt.pure _
      · refine Evt.ite_pos (by rw [Bool.eq_false_iff.mpr hy]; rfl) ?_
        rw [if_neg (fun h : x.2 = true ∧ y.2 = true => hy h.2)]; exact Evt.pure _
    · rw [if_neg (fun h => hx h.1)]
      refine Evt.ite_neg hx (Evt.step ?_)
      simp only [comm_Parse.j0]
      exact Evt.ite_pos trivial (Evt.pure _)
  unfold comm_Parse.f parL
  rw [tx_list]
  by_cases h1 : s = neL
  · refine Evt.ite_pos h1 ?_
    rw [if_pos h1]; exact Evt.of fun k => rfl
  · refine Evt.ite_neg h1 ?_
    rw [if_neg h1]
    by_cases h2 : s = naL
    · refine Evt.ite_pos h2 ?_
      rw [if_pos h2]; exact Evt.of fun k => rfl
    · refine Evt.ite_neg h2 ?_
      rw [if_neg h2]
      by_cases h3 : s = loL
      · refine Evt.ite_pos h3 ?_
        rw [if_pos h3]; exact Evt.of fun k => rfl
      · refine Evt.ite_neg h3 ?_
        rw [if_neg h3]
        have hlt := indexByte_lt s 58
        have e1 : ((⟨#[58]⟩ : ByteArray)).data.toList = [58] := rfl
        have e2 : (tx s).data.toList = s := by simp [tx]
        unfold partL
        by_cases h4 : 0 ≤ Lib.indexByte s 58
        · rw [if_pos h4]
          have hc : strings_Cut.f (tx s) (⟨#[58]⟩ : ByteArray) = some (tx (s.take (Lib.indexByte s 58).toNat), tx (s.drop ((Lib.indexByte s 58).toNat + 1)), true) := by
            unfold strings_Cut.f
            rw [e1, e2]
            simp only
            rw [if_pos (by rw [tx_size]; omega), if_pos h4]; rfl
          refine Evt.bindc hc (Evt.bindc (cNum_is _ (by rw [List.length_take]; omega)) (Evt.bindc (cNum_is _ (by rw [List.length_drop]; omega)) (Evt.ite_pos rfl (J _ _))))
        · rw [if_neg h4]
          have hc : strings_Cut.f (tx s) (⟨#[58]⟩ : ByteArray) = some (tx s, tx [], false) := by
            unfold strings_Cut.f
            rw [e1, e2]
            simp only
            rw [if_pos (by rw [tx_size]; omega), if_neg h4]; rfl
          refine Evt.bindc hc (Evt.bindc (cNum_is _ (by omega)) (Evt.bindc (cNum_is _ (by simp)) (Evt.ite_neg (by simp) (Evt.step ?_))))
          simp only [comm_Parse.j0]
          exact Evt.ite_pos trivial (Evt.pure _)
/-- a number; -1: none -/
def numR (x : Int × Bool) : Int := if x.2 = true then x.1 else -1
theorem bt_tx {s : List UInt8} {i : Nat} {c : UInt8} (h : s[i]? = some c) : bt (tx s) (i : Int) = (c.toNat : Int) := by
  unfold bt
  have hi := (List.getElem?_eq_some_iff.1 h).1
  have h2 : (i : Int).toNat < (tx s).size := by rw [Int.toNat_natCast, tx_size]; exact hi
  rw [dif_pos h2]
  have : ((tx s)[(i : Int).toNat]'h2) = c := by
    have e := (List.getElem?_eq_some_iff.1 h).2
    show ((tx s).data[(i : Int).toNat]'_) = c
    simp [tx, e]
  rw [this]
theorem refDigL_ev : ∀ (d : Nat) (s : List UInt8) (i tt : Nat) (n : Int), s.length ≤ 5000 → tt ≤ s.length → tt - i = d → i ≤ tt → 0 ≤ n → n ≤ 1000000 →
    Evt (fun k => whirligigref03_digits.l0 k (tx s) (tt : Int) n (i : Int)) (if ((s.take tt).drop i).all isDg = true then numF 1000000 n ((s.take tt).drop i) else -1) := by
  intro d
  induction d with
  | zero =>
    intro s i tt n hs ht hd hi h0 h1
    refine Evt.step ?_
    simp only [whirligigref03_digits.l0]
    refine Evt.ite_neg (by omega) (Evt.of fun k => ?_)
    rw [List.drop_eq_nil_of_le (by rw [List.length_take]; omega)]; rfl
  | succ d ih =>
    intro s i tt n hs ht hd hi h0 h1
    refine Evt.step ?_
    simp only [whirligigref03_digits.l0]
    have hi2 : i < s.length := by omega
    obtain ⟨c, _, hc, hdc⟩ := pat (l := s.take tt) (i := i) (by rw [List.length_take]; omega)
    have hc2 : s[i]? = some c := by rw [List.getElem?_take_of_lt (by omega)] at hc; exact hc
    have hb := bt_tx hc2
    refine Evt.ite_pos (by omega) (Evt.ite_pos (by omega) (Evt.ite_pos (by rw [tx_size]; omega) ?_))
    rw [hb, hdc, List.all_cons]
    have hrng : (c.toNat : Int) ≤ 255 := by have := c.toNat_lt; omega
    have hj : ∀ b : Bool, Evt (fun k => whirligigref03_digits.j2 k (tx s) (tt : Int) n (i : Int) b) (if b = true then -1 else if ((s.take tt).drop (i + 1)).all isDg = true then numF 1000000 (min (10 * n + ((c.toNat : Int) - 48)) 1000000) ((s.take tt).drop (i + 1)) else -1) ∨ (b = false ∧ isDg c = false) := by
      intro b
      cases b with
      | true =>
        refine .inl (Evt.step ?_)
        simp only [whirligigref03_digits.j2]
        exact Evt.ite_pos trivial (Evt.pure _)
      | false =>
        by_cases hd : isDg c = true
        · refine .inl (Evt.step ?_)
          unfold isDg at hd
          simp at hd
          simp only [whirligigref03_digits.j2]
          refine Evt.ite_neg (by simp) (Evt.ite_pos (by omega) (Evt.ite_pos (by rw [tx_size]; omega) ?_))
          rw [hb, wrap64_in (10 * n) (by omega) (by omega), wrap64_in (c.toNat : Int) (by omega) (by omega), wrap64_in (10 * n + (c.toNat : Int)) (by omega) (by omega), wrap64_in (10 * n + (c.toNat : Int) - 48) (by omega) (by omega), wrap64_in ((i : Int) + 1) (by omega) (by omega)]
          rw [if_neg (by simp)]
          by_cases hm : 10 * n + (c.toNat : Int) - 48 > 1000000
          · refine Evt.ite_pos hm ?_
            rw [show min (10 * n + ((c.toNat : Int) - 48)) 1000000 = 1000000 by omega]
            exact ih s (i + 1) tt _ hs ht (by omega) (by omega) (by omega) (by omega)
          · refine Evt.ite_neg hm ?_
            rw [show min (10 * n + ((c.toNat : Int) - 48)) 1000000 = 10 * n + (c.toNat : Int) - 48 by omega]
            exact ih s (i + 1) tt _ hs ht (by omega) (by omega) (by omega) (by omega)
        · exact .inr ⟨rfl, Bool.eq_false_iff.mpr hd⟩
    by_cases hlo : (c.toNat : Int) < 48
    · refine Evt.ite_pos hlo ?_
      have hd : isDg c = false := by unfold isDg; rw [decide_eq_false (by omega)]; rfl
      rw [hd, Bool.false_and, if_neg (by simp)]
      rcases hj true with h | h
      · rwa [if_pos rfl] at h
      · cases h.1
    · refine Evt.ite_neg hlo ?_
      by_cases hhi : (c.toNat : Int) > 57
      · rw [decide_eq_true hhi]
        have hd : isDg c = false := by unfold isDg; rw [decide_eq_false (show ¬ c.toNat ≤ 57 by omega), Bool.and_false]
        rw [hd, Bool.false_and, if_neg (by simp)]
        rcases hj true with h | h
        · rwa [if_pos rfl] at h
        · cases h.1
      · rw [decide_eq_false hhi]
        have hd : isDg c = true := by unfold isDg; rw [decide_eq_true (show 48 ≤ c.toNat by omega), decide_eq_true (show c.toNat ≤ 57 by omega)]; rfl
        rw [hd, Bool.true_and]
        rcases hj false with h | h
        · rw [if_neg (by simp)] at h; exact h
        · rw [hd] at h; cases h.2
theorem refDig_ev (s : List UInt8) (i tt : Nat) (hs : s.length ≤ 5000) (ht : tt ≤ s.length) : Evt (fun k => whirligigref03_digits.f k (tx s) (i : Int) (tt : Int)) (numR (numL 1000000 ((s.take tt).drop i))) := by
  unfold whirligigref03_digits.f
  have no : ∀ l : List UInt8, (l = [] ∨ (1 < l.length ∧ l.head? = some 48)) → numR (numL 1000000 l) = -1 := fun l h => by unfold numL; rw [if_pos h]; rfl
  have yes : ∀ l : List UInt8, ¬ (l = [] ∨ (1 < l.length ∧ l.head? = some 48)) → numR (numL 1000000 l) = if l.all isDg = true then numF 1000000 0 l else -1 := fun l h => by unfold numL numR; rw [if_neg h]; split <;> rfl
  have J : ∀ b : Bool, Evt (fun k => whirligigref03_digits.j0 k (tx s) (i : Int) (tt : Int) b) (if b = true then -1 else if ((s.take tt).drop i).all isDg = true then numF 1000000 0 ((s.take tt).drop i) else -1) ∨ (b = false ∧ tt ≤ i) := by
    intro b
    cases b with
    | true =>
      refine .inl (Evt.step ?_)
      simp only [whirligigref03_digits.j0]
      exact Evt.ite_pos trivial (Evt.pure _)
    | false =>
      by_cases h : i < tt
      · refine .inl (Evt.step ?_)
        simp only [whirligigref03_digits.j0]
        rw [if_neg (by simp)]
        exact Evt.ite_neg (by simp) (refDigL_ev (tt - i) s i tt 0 hs ht rfl (by omega) (by omega) (by omega))
      · exact .inr ⟨rfl, by omega⟩
  by_cases h : tt ≤ i
  · refine Evt.ite_pos (by omega) ?_
    rw [no _ (.inl (List.drop_eq_nil_of_le (by rw [List.length_take]; omega)))]
    rcases J true with h | h
    · rw [if_pos rfl] at h; exact h
    · cases h.1
  · refine Evt.ite_neg (by omega) (Evt.ite_pos (by omega) (Evt.ite_pos (by rw [tx_size]; omega) ?_))
    obtain ⟨c, _, hc, hdc⟩ := pat (l := s.take tt) (i := i) (by rw [List.length_take]; omega)
    have hc2 : s[i]? = some c := by rw [List.getElem?_take_of_lt (by omega)] at hc; exact hc
    have hb := bt_tx hc2
    have hne : (s.take tt).drop i ≠ [] := by rw [hdc]; simp
    have hhd : ((s.take tt).drop i).head? = some c := by rw [hdc]; rfl
    have hln : ((s.take tt).drop i).length = tt - i := by rw [List.length_drop, List.length_take]; omega
    have FJ : Evt (fun k => whirligigref03_digits.j0 k (tx s) (i : Int) (tt : Int) true) (-1) := by
      rcases J true with h | h
      · rw [if_pos rfl] at h; exact h
      · cases h.1
    have TJ : Evt (fun k => whirligigref03_digits.j0 k (tx s) (i : Int) (tt : Int) false) (if ((s.take tt).drop i).all isDg = true then numF 1000000 0 ((s.take tt).drop i) else -1) := by
      rcases J false with h | h
      · rw [if_neg (by simp)] at h; exact h
      · omega
    rw [hb]
    have hw : wrap64 ((tt : Int) - (i : Int)) = ((tt - i : Nat) : Int) := by rw [wrap64_in _ (by omega) (by omega)]; omega
    by_cases h48 : (c.toNat : Int) = 48
    · have hc48 : c = 48 := UInt8.toNat_inj.1 (by show c.toNat = 48; omega)
      refine Evt.ite_pos h48 ?_
      rw [hw]
      by_cases h1 : 1 < tt - i
      · rw [decide_eq_true (by omega), no _ (.inr ⟨by rw [hln]; exact h1, by rw [hhd, hc48]⟩)]
        exact FJ
      · rw [decide_eq_false (by omega), yes _ (by rintro (e | e); exact hne e; rw [hln] at e; exact h1 e.1)]
        exact TJ
    · refine Evt.ite_neg h48 ?_
      rw [yes _ (by
        rintro (e | ⟨_, e⟩)
        · exact hne e
        · rw [hhd] at e; injection e with e; rw [e] at h48; exact h48 rfl)]
      exact TJ
theorem refTwo_ev (x y : Int × Bool) (hx : 0 ≤ x.1) (hy : 0 ≤ y.1) : Evt (fun k => if numR x < 0 then (whirligigref03_Parse.j3 k true (numR x) (numR y)) else (whirligigref03_Parse.j3 k (decide (numR y < 0)) (numR x) (numR y))) (twoL x y) := by
  have F : ∀ a b, Evt (fun k => whirligigref03_Parse.j3 k true a b) ((0, 0, 4) : Int × Int × Int) := fun a b => by
    refine Evt.step ?_
    simp only [whirligigref03_Parse.j3]
    exact Evt.ite_pos trivial (Evt.pure _)
  unfold twoL
  by_cases h1 : x.2 = true
  · have e1 : numR x = x.1 := by unfold numR; rw [if_pos h1]
    rw [e1]
    refine Evt.ite_neg (by omega) ?_
    by_cases h2 : y.2 = true
    · have e2 : numR y = y.1 := by unfold numR; rw [if_pos h2]
      rw [e2, if_pos ⟨h1, h2⟩, decide_eq_false (by omega)]
      refine Evt.step ?_
      simp only [whirligigref03_Parse.j3]
      refine Evt.ite_neg (by simp) (Evt.bindc (refCommMay_is _ _) ?_)
      by_cases hm : mayCB x.1 y.1 = true
      · refine Evt.ite_pos hm ?_
        rw [if_pos hm]; exact Evt.pure _
      · refine Evt.ite_neg hm ?_
        rw [if_neg hm]; exact Evt.pure _
    · have e2 : numR y = -1 := by unfold numR; rw [if_neg h2]
      rw [e2, if_neg (fun h => h2 h.2)]
      exact F _ _
  · have e1 : numR x = -1 := by unfold numR; rw [if_neg h1]
    rw [e1, if_neg (fun h => h1 h.1)]
    exact Evt.ite_pos (by omega) (F _ _)
theorem refPar1_ev : ∀ (d : Nat) (s : List UInt8) (i : Nat), s.length ≤ 5000 → s.length - i = d → i ≤ s.length → (∀ j : Nat, j < i → s[j]? ≠ some 58) → Evt (fun k => whirligigref03_Parse.l1 k (tx s) (i : Int)) (partL s) := by
  have J : ∀ (s : List UInt8) (i : Nat), s.length ≤ 5000 → i < s.length → s[i]? = some 58 → (∀ j : Nat, j < i → s[j]? ≠ some 58) → Evt (fun k => whirligigref03_Parse.j2 k (tx s) (i : Int)) (partL s) := by
    intro s i hs hi hc hall
    have hidx : Lib.indexByte s 58 = (i : Int) := by
      rcases Int.lt_or_le (Lib.indexByte s 58) 0 with h1 | h1
      · have := Lib.indexByte_ge s 58
        exact absurd hc (Lib.indexByte_none (by omega) i)
      · obtain ⟨o, ho⟩ := Int.eq_ofNat_of_zero_le h1
        obtain ⟨h2, h3⟩ := Lib.indexByte_some ho
        rcases Nat.lt_trichotomy o i with h | h | h
        · exact absurd h2 (hall o h)
        · rw [ho, h]
        · exact absurd hc (h3 i h)
    unfold partL
    rw [hidx, if_pos (by omega), Int.toNat_natCast]
    refine Evt.step ?_
    simp only [whirligigref03_Parse.j2]
    refine Evt.ite_neg (by rw [tx_size]; omega) ?_
    have d1 := refDig_ev s 0 i hs (by omega)
    have d2 := refDig_ev s (i + 1) s.length hs (by omega)
    rw [List.drop_zero] at d1
    rw [List.take_of_length_le (Nat.le_refl _)] at d2
    refine Evt.bind d1 ?_
    rw [wrap64_in ((i : Int) + 1) (by omega) (by omega), tx_size]
    refine Evt.bind d2 ?_
    exact refTwo_ev _ _ (numL_rng _ (by omega) _).1 (numL_rng _ (by omega) _).1
  intro d
  induction d with
  | zero =>
    intro s i hs hd hi hall
    refine Evt.step ?_
    simp only [whirligigref03_Parse.l1]
    refine Evt.ite_neg (by rw [tx_size]; omega) (Evt.step ?_)
    simp only [whirligigref03_Parse.j2]
    refine Evt.ite_pos (by rw [tx_size]; omega) ?_
    unfold partL
    rw [if_neg]
    · exact Evt.pure _
    · intro h1
      obtain ⟨o, ho⟩ := Int.eq_ofNat_of_zero_le h1
      have h2 := (Lib.indexByte_some ho).1
      have := (List.getElem?_eq_some_iff.1 h2).1
      exact hall o (by omega) h2
  | succ d ih =>
    intro s i hs hd hi hall
    refine Evt.step ?_
    simp only [whirligigref03_Parse.l1]
    obtain ⟨c, _, hc, _⟩ := pat (l := s) (i := i) (by omega)
    refine Evt.ite_pos (by rw [tx_size]; omega) (Evt.ite_pos (by omega) ?_)
    rw [bt_tx hc]
    by_cases h : (c.toNat : Int) = 58
    · have hc58 : c = 58 := UInt8.toNat_inj.1 (by show c.toNat = 58; omega)
      subst hc58
      exact Evt.ite_pos h (J s i hs (by omega) hc hall)
    · refine Evt.ite_neg h ?_
      rw [wrap64_in _ (by omega) (by omega)]
      refine ih s (i + 1) hs (by omega) (by omega) fun j hj hx => ?_
      by_cases hji : j = i
      · subst hji; rw [hc] at hx; cases hx; exact h rfl
      · exact hall j (by omega) hx
theorem refParse_ev (s : List UInt8) (hs : s.length ≤ 5000) : Evt (fun k => whirligigref03_Parse.f k (tx s)) (parL s) := by
  unfold whirligigref03_Parse.f parL
  have t1 : Evt (fun k => whirligigref03_Text.f k 65535 65281) (tx neL) := refCommText_ev 65535 65281 (by decide)
  have t2 : Evt (fun k => whirligigref03_Text.f k 65535 65282) (tx naL) := refCommText_ev 65535 65282 (by decide)
  have t3 : Evt (fun k => whirligigref03_Text.f k 65535 65283) (tx loL) := refCommText_ev 65535 65283 (by decide)
  refine Evt.step ?_
  simp only [whirligigref03_Parse.l0]
  refine Evt.ite_pos (by omega) (Evt.bind t1 ?_)
  rw [tx_list, tx_list]
  by_cases h1 : s = neL
  · refine Evt.ite_pos h1 ?_
    rw [if_pos h1]; exact Evt.pure _
  · refine Evt.ite_neg h1 ?_
    rw [if_neg h1, show wrap64 (65281 + 1) = 65282 from wrap64_in _ (by omega) (by omega)]
    refine Evt.step ?_
    simp only [whirligigref03_Parse.l0]
    refine Evt.ite_pos (by omega) (Evt.bind t2 ?_)
    rw [tx_list, tx_list]
    by_cases h2 : s = naL
    · refine Evt.ite_pos h2 ?_
      rw [if_pos h2]; exact Evt.pure _
    · refine Evt.ite_neg h2 ?_
      rw [if_neg h2, show wrap64 (65282 + 1) = 65283 from wrap64_in _ (by omega) (by omega)]
      refine Evt.step ?_
      simp only [whirligigref03_Parse.l0]
      refine Evt.ite_pos (by omega) (Evt.bind t3 ?_)
      rw [tx_list, tx_list]
      by_cases h3 : s = loL
      · refine Evt.ite_pos h3 ?_
        rw [if_pos h3]; exact Evt.pure _
      · refine Evt.ite_neg h3 ?_
        rw [if_neg h3, show wrap64 (65283 + 1) = 65284 from wrap64_in _ (by omega) (by omega)]
        refine Evt.step ?_
        simp only [whirligigref03_Parse.l0]
        refine Evt.ite_neg (by omega) ?_
        exact refPar1_ev s.length s 0 hs (by omega) (by omega) (fun j hj => by omega)
theorem parL_text (a b : Int) (h : mayCB a b = true) : parL (cT a b) = (a, b, 0) := by
  obtain ⟨h1, h2, h3, h4⟩ := mayCB_iff.1 h
  unfold cT
  by_cases e1 : a = 65535 ∧ b = 65281
  · obtain ⟨rfl, rfl⟩ := e1; decide
  · rw [if_neg e1]
    by_cases e2 : a = 65535 ∧ b = 65282
    · obtain ⟨rfl, rfl⟩ := e2; decide
    · rw [if_neg e2]
      by_cases e3 : a = 65535 ∧ b = 65283
      · obtain ⟨rfl, rfl⟩ := e3; decide
      · rw [if_neg e3]
        obtain ⟨a, rfl⟩ := Int.eq_ofNat_of_zero_le (show 0 ≤ a by omega)
        obtain ⟨b, rfl⟩ := Int.eq_ofNat_of_zero_le h3
        have hf : ∀ (c : UInt8) (r : List UInt8), isD c = false → dg (a : Int) ++ 58 :: dg (b : Int) ≠ c :: r := by
          intro c r hc e
          have h5 := dig_len_ge a
          unfold dg at e
          rw [Int.toNat_natCast] at e
          cases hd : dig a with
          | nil => rw [hd] at h5; simp at h5
          | cons x l =>
            rw [hd] at e
            have h6 := dig_isD a x (by rw [hd]; simp)
            injection e with e _
            rw [e, hc] at h6
            cases h6
        unfold parL
        rw [if_neg (show ¬ dg (a : Int) ++ 58 :: dg (b : Int) = neL from hf 110 _ (by decide)), if_neg (show ¬ dg (a : Int) ++ 58 :: dg (b : Int) = naL from hf 110 _ (by decide)), if_neg (show ¬ dg (a : Int) ++ 58 :: dg (b : Int) = loL from hf 108 _ (by decide))]
        unfold partL dg
        rw [Int.toNat_natCast, Int.toNat_natCast, indexByte_app _ _ _ (fun x hx e => by have := dig_isD a x hx; rw [e] at this; revert this; decide), if_pos (by omega), Int.toNat_natCast, List.take_left, List.drop_append]
        rw [List.drop_eq_nil_of_le (by omega), List.nil_append, show (dig a).length + 1 - (dig a).length = 1 by omega, List.drop_succ_cons, List.drop_zero, numL_dig _ a (by omega), numL_dig _ b (by omega)]
        unfold twoL
        rw [if_pos ⟨rfl, rfl⟩, if_pos h]
end Go.Proofs.Ytikjfonedddlpaa.P
