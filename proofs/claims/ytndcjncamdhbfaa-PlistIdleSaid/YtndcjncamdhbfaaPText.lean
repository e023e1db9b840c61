/- Prefixes' texts, in lists of bytes alone. -/
import Derived.Test.YtndcjncamdhbfaaPAddr
import Derived.Test.YtndcjncamdhbfaaPx3
import Derived.Test.YtndcjncamdhbfaaPx5
set_option linter.unusedVariables false
set_option linter.unusedSimpArgs false
namespace Go.Proofs.Ytndcjncamdhbfaa.P
open Go.RowKit Go.Proofs.YtndcjncamdhbfaaW.PrintWords Go.Proofs.YtndcjncamdhbfaaW.PrintLast Go.Proofs.YtndcjncamdhbfaaW.PrintMore

/-- a text -/
def tx (l : List UInt8) : ByteArray := ⟨l.toArray⟩
theorem tx_app (l m : List UInt8) : tx l ++ tx m = tx (l ++ m) := app_list l m
theorem tx_size (l : List UInt8) : (tx l).size = l.length := size_list l
theorem tx_list (l : List UInt8) : (tx l).toList = l := by unfold tx; simp
theorem tx_inj {l m : List UInt8} : tx l = tx m ↔ l = m := ⟨fun h => by rw [← tx_list l, h, tx_list], fun h => by rw [h]⟩
theorem num1 (n : Nat) (h : n < 10) : strOfNums [(wrap64 (48 + (n : Int))) % 256] = tx [48 + UInt8.ofNat n] := by
  have e : (wrap64 (48 + (n : Int))) % 256 = 48 + n := by rw [wrap64_in _ (by omega) (by omega)]; omega
  rw [e, ← byte_dig n h]; rfl
theorem number_ev : ∀ (m n : Nat) (s : List UInt8), n < 10 ^ (m + 1) → n ≤ 9223372036854775807 → m + 1 + s.length ≤ 9223372036854775807 →
    Evt (fun k => whirligigref01_Number.l0 k (n : Int) (tx s)) (tx (dig n ++ s)) := by
  intro m
  induction m with
  | zero =>
    intro n s h h1 h2
    refine Evt.step ?_
    simp only [whirligigref01_Number.l0]
    have hn : n < 10 := by simpa using h
    refine Evt.ite_neg (by omega) (Evt.bindc rfl ?_)
    rw [num1 n hn, dig_small n hn, tx_app, tx_size, tx_size]
    exact Evt.ite_pos (by simp; omega) (Evt.pure _)
  | succ m ih =>
    intro n s h h1 h2
    refine Evt.step ?_
    simp only [whirligigref01_Number.l0]
    by_cases hn : n < 10
    · refine Evt.ite_neg (by omega) (Evt.bindc rfl ?_)
      rw [num1 n hn, dig_small n hn, tx_app, tx_size, tx_size]
      exact Evt.ite_pos (by simp; omega) (Evt.pure _)
    · refine Evt.ite_pos (by omega) (Evt.bindc rfl ?_)
      have e : Int.tmod (n : Int) 10 = ((n % 10 : Nat) : Int) := by rw [Int.tmod_eq_emod_of_nonneg (by omega)]; omega
      have e2 : Int.tdiv (n : Int) 10 = ((n / 10 : Nat) : Int) := by rw [Int.tdiv_eq_ediv_of_nonneg (by omega)]; omega
      rw [e, e2, num1 _ (by omega), tx_app, tx_size, tx_size, wrap64_in _ (by omega) (by omega), dig_big n hn]
      refine Evt.ite_pos (by simp; omega) ?_
      have := ih (n / 10) ([48 + UInt8.ofNat (n % 10)] ++ s) (by rw [Nat.pow_succ] at h; omega) (by omega) (by simp; omega)
      rw [List.append_assoc]
      exact this
theorem refNumber_ev (n : Int) (h0 : 0 ≤ n) (h1 : n ≤ 9223372036854775807) : Evt (fun k => whirligigref01_Number.f k n) (tx (dig n.toNat)) := by
  obtain ⟨n, rfl⟩ := Int.eq_ofNat_of_zero_le h0
  have := number_ev 18 n [] (by have : (10 : Nat) ^ 19 = 10000000000000000000 := by decide
                                omega) (by omega) (by simp)
  rw [List.append_nil] at this
  exact this
theorem digits_is (n : Int) (h0 : 0 ≤ n) (h1 : n ≤ 4294967295) : addr_digits.f n = some (tx (dig n.toNat)) := by
  unfold addr_digits.f
  rw [if_pos ⟨h0, h1⟩]; rfl
/-- a prefix's text -/
def octs (a : Int) : List (List UInt8) := [dig (a / 16777216).toNat, dig (a / 65536 % 256).toNat, dig (a / 256 % 256).toNat, dig (a % 256).toNat]
def txtL (a b : Int) : List UInt8 := Lib.join (octs a) [46] ++ [47] ++ dig b.toNat
theorem dig3 (n : Int) (h : n < 1000) : (dig n.toNat).length ≤ 3 := dig_len_pow 2 _ (by simp; omega)
theorem octs_len (a : Int) (ha : isA a) : (Lib.join (octs a) [46]).length ≤ 15 := by
  have := ha.1
  have := ha.2
  have h1 := dig3 (a / 16777216) (by omega)
  have h2 := dig3 (a / 65536 % 256) (by omega)
  have h3 := dig3 (a / 256 % 256) (by omega)
  have h4 := dig3 (a % 256) (by omega)
  simp [octs, Lib.join, List.intercalate]
  omega
theorem shr_is (a : Int) (n : Nat) (hn : n ≤ 32) : shr .u32 a (n : Int) = a / 2 ^ n := by
  unfold shr
  rw [show min ((n : Int).toNat) IntKind.u32.bits = n by rw [Int.toNat_natCast]; exact Nat.min_eq_left hn]
theorem and255 (a : Int) (h0 : 0 ≤ a) (h1 : a < 4294967296) : bits .and .u32 a 255 = a % 256 := bits_mask .u32 32 (by decide) (fun n h0 h1 => by rw [IntKind.wrap_u32]; omega) 8 (by decide) a h0 h1
theorem addrText_ev (a b : Int) (ha : isA a) : Evt (fun k => addr_Text.f k a b) (tx (if mayB a b then txtL a b else [])) := by
  unfold addr_Text.f
  refine Evt.bindc (may_is a b ha) ?_
  by_cases hm : mayB a b = true
  · rw [if_pos hm]
    obtain ⟨h0, h1, h2⟩ := (mayB_iff a b).1 hm
    refine Evt.ite_pos hm ?_
    have := ha.1
    have := ha.2
    refine Evt.step ?_
    simp only [addr_Text.l0]
    refine Evt.ite_pos (by decide +kernel) (Evt.ite_pos (by decide +kernel) ?_)
    rw [show (wrap64 (24 - wrap64 (8 * 0))) = ((24 : Nat) : Int) by decide +kernel, shr_is a 24 (by decide), and255 _ (by omega) (by omega), show a / 2 ^ 24 % 256 = a / 16777216 by omega]
    refine Evt.bindc (digits_is _ (by omega) (by omega)) (Evt.ite_pos (by decide) (Evt.step ?_))
    simp only [addr_Text.l0]
    refine Evt.ite_pos (by decide +kernel) (Evt.ite_pos (by decide +kernel) ?_)
    rw [show (wrap64 (24 - wrap64 (8 * wrap64 (0 + 1)))) = ((16 : Nat) : Int) by decide +kernel, shr_is a 16 (by decide), and255 _ (by omega) (by omega), show a / 2 ^ 16 % 256 = a / 65536 % 256 by omega]
    refine Evt.bindc (digits_is _ (by omega) (by omega)) (Evt.ite_pos (by simp) (Evt.step ?_))
    simp only [addr_Text.l0]
    refine Evt.ite_pos (by decide +kernel) (Evt.ite_pos (by decide +kernel) ?_)
    rw [show (wrap64 (24 - wrap64 (8 * wrap64 (wrap64 (0 + 1) + 1)))) = ((8 : Nat) : Int) by decide +kernel, shr_is a 8 (by decide), and255 _ (by omega) (by omega), show a / 2 ^ 8 % 256 = a / 256 % 256 by omega]
    refine Evt.bindc (digits_is _ (by omega) (by omega)) (Evt.ite_pos (by simp) (Evt.step ?_))
    simp only [addr_Text.l0]
    refine Evt.ite_pos (by decide +kernel) (Evt.ite_pos (by decide +kernel) ?_)
    rw [show (wrap64 (24 - wrap64 (8 * wrap64 (wrap64 (wrap64 (0 + 1) + 1) + 1)))) = ((0 : Nat) : Int) by decide +kernel, shr_is a 0 (by decide), and255 _ (by simp; omega) (by simp; omega), show a / 2 ^ 0 % 256 = a % 256 by simp]
    refine Evt.bindc (digits_is _ (by omega) (by omega)) (Evt.ite_pos (by simp) (Evt.step ?_))
    simp only [addr_Text.l0]
    refine Evt.ite_neg (by decide +kernel) ?_
    have hl := octs_len a ha
    have hj : strings_Join.f ([] ++ [tx (dig (a / 16777216).toNat)] ++ [tx (dig (a / 65536 % 256).toNat)] ++ [tx (dig (a / 256 % 256).toNat)] ++ [tx (dig (a % 256).toNat)]) ⟨#[46]⟩ = some (tx (Lib.join (octs a) [46])) := by
      unfold strings_Join.f
      have e : List.map (fun x : ByteArray => x.data.toList) ([] ++ [tx (dig (a / 16777216).toNat)] ++ [tx (dig (a / 65536 % 256).toNat)] ++ [tx (dig (a / 256 % 256).toNat)] ++ [tx (dig (a % 256).toNat)]) = octs a := rfl
      rw [e]
      rw [if_pos ⟨by simp, by have : (#[46] : Array UInt8).toList = [46] := rfl
                              rw [this]; omega⟩]
      rfl
    refine Evt.bindc hj ?_
    rw [tx_size]
    refine Evt.ite_pos (by omega) ?_
    rw [Int.emod_eq_of_lt (by omega) (by omega)]
    refine Evt.bindc (digits_is b (by omega) (by omega)) ?_
    have hb := dig3 b (by omega)
    have e : tx (Lib.join (octs a) [46]) ++ (⟨#[47]⟩ : ByteArray) = tx (Lib.join (octs a) [46] ++ [47]) := tx_app _ [47]
    rw [e, tx_app, tx_size, tx_size]
    exact Evt.ite_pos (by simp; omega) (Evt.pure _)
  · rw [if_neg hm]
    exact Evt.ite_neg hm (Evt.pure _)
theorem refText_ev (a b : Int) (ha : isA a) : Evt (fun k => whirligigref01_Text.f k a b) (tx (if mayB a b then txtL a b else [])) := by
  unfold whirligigref01_Text.f
  refine Evt.bind (refMay_ev a b ha) ?_
  by_cases hm : mayB a b = true
  · rw [if_pos hm]
    obtain ⟨h0, h1, h2⟩ := (mayB_iff a b).1 hm
    have := ha.1
    have := ha.2
    refine Evt.ite_pos hm ?_
    rw [wrap64_in a (by omega) (by omega), Int.tdiv_eq_ediv_of_nonneg (by omega), Int.tdiv_eq_ediv_of_nonneg (by omega), Int.tdiv_eq_ediv_of_nonneg (by omega), wrap64_in _ (by omega) (by omega), wrap64_in _ (by omega) (by omega), wrap64_in _ (by omega) (by omega),
      Int.tmod_eq_emod_of_nonneg (by omega), Int.tmod_eq_emod_of_nonneg (by omega), Int.tmod_eq_emod_of_nonneg (by omega)]
    have d1 := dig3 (a / 16777216) (by omega)
    have d2 := dig3 (a / 65536 % 256) (by omega)
    have d3 := dig3 (a / 256 % 256) (by omega)
    have d4 := dig3 (a % 256) (by omega)
    have d5 := dig3 b (by omega)
    have e46 : (⟨#[46]⟩ : ByteArray) = tx [46] := rfl
    have e47 : (⟨#[47]⟩ : ByteArray) = tx [47] := rfl
    simp only [e46, e47]
    refine Evt.bind (refNumber_ev _ (by omega) (by omega)) ?_
    rw [tx_size]; refine Evt.ite_pos (by omega) ?_
    refine Evt.bind (refNumber_ev _ (by omega) (by omega)) ?_
    simp only [tx_app, tx_size]
    refine Evt.ite_pos (by simp; omega) (Evt.ite_pos (by simp; omega) ?_)
    refine Evt.bind (refNumber_ev _ (by omega) (by omega)) ?_
    simp only [tx_app, tx_size]
    refine Evt.ite_pos (by simp; omega) (Evt.ite_pos (by simp; omega) ?_)
    refine Evt.bind (refNumber_ev _ (by omega) (by omega)) ?_
    simp only [tx_app, tx_size]
    refine Evt.ite_pos (by simp; omega) (Evt.ite_pos (by simp; omega) ?_)
    refine Evt.bind (refNumber_ev _ (by omega) (by omega)) ?_
    simp only [tx_app, tx_size]
    refine Evt.ite_pos (by simp; omega) (Evt.of fun k => ?_)
    simp [txtL, octs, Lib.join, List.intercalate]
  · rw [if_neg hm]
    exact Evt.ite_neg hm (Evt.pure _)
/-- the number of some digits -/
def valD (l : List UInt8) : Nat := l.foldl (fun n c => 10 * n + (c.toNat - 48)) 0
theorem valD_snoc (l : List UInt8) (c : UInt8) : valD (l ++ [c]) = 10 * valD l + (c.toNat - 48) := by simp [valD]
theorem dig_byte (n : Nat) (h : n < 10) : (48 + UInt8.ofNat n).toNat = 48 + n := by rw [UInt8.toNat_add]; simp; omega
theorem valD_dig (n : Nat) : valD (dig n) = n := by
  induction n using Nat.strongRecOn with
  | _ n ih =>
    by_cases h : n < 10
    · rw [dig_small n h]; simp [valD, dig_byte n h]
    · rw [dig_big n h, valD_snoc, ih (n / 10) (by omega), dig_byte _ (by omega)]; omega
theorem dig_inj {m n : Nat} (h : dig m = dig n) : m = n := by rw [← valD_dig m, h, valD_dig]
def isD (c : UInt8) : Bool := decide (48 ≤ c.toNat) && decide (c.toNat ≤ 57)
theorem dig_isD (n : Nat) : ∀ c, c ∈ dig n → isD c = true := by
  induction n using Nat.strongRecOn with
  | _ n ih =>
    intro c hc
    by_cases h : n < 10
    · rw [dig_small n h] at hc; simp at hc; subst hc; unfold isD; rw [dig_byte n h]; simp; omega
    · rw [dig_big n h] at hc
      rcases List.mem_append.1 hc with hc | hc
      · exact ih (n / 10) (by omega) c hc
      · simp at hc; subst hc; unfold isD; rw [dig_byte _ (by omega)]; simp; omega
/-- digits end where none stands -/
def offD (s : List UInt8) : Prop := ∀ c t, s = c :: t → isD c = false
theorem span_eq : ∀ (u v s t : List UInt8), (∀ c, c ∈ u → isD c = true) → (∀ c, c ∈ v → isD c = true) → offD s → offD t → u ++ s = v ++ t → u = v ∧ s = t := by
  intro u
  induction u with
  | nil =>
    intro v s t hu hv hs ht h
    cases v with
    | nil => exact ⟨rfl, h⟩
    | cons c v =>
      have := hs c (v ++ t) (by simpa using h)
      rw [hv c (by simp)] at this; cases this
  | cons c u ih =>
    intro v s t hu hv hs ht h
    cases v with
    | nil =>
      have := ht c (u ++ s) (by simpa using h.symm)
      rw [hu c (by simp)] at this; cases this
    | cons d v =>
      simp at h
      obtain ⟨rfl, h⟩ := h
      obtain ⟨rfl, h2⟩ := ih v s t (fun c hc => hu c (by simp [hc])) (fun c hc => hv c (by simp [hc])) hs ht h
      exact ⟨rfl, h2⟩
theorem dig_span {m n : Nat} {s t : List UInt8} (hs : offD s) (ht : offD t) (h : dig m ++ s = dig n ++ t) : m = n ∧ s = t := by
  obtain ⟨h1, h2⟩ := span_eq _ _ _ _ (dig_isD m) (dig_isD n) hs ht h
  exact ⟨dig_inj h1, h2⟩
theorem offD_cons (c : UInt8) (s : List UInt8) (h : isD c = false) : offD (c :: s) := fun d t e => by cases e; exact h
theorem offD_nil : offD [] := fun d t e => by cases e
theorem txtL_eq (a b : Int) : txtL a b = dig (a / 16777216).toNat ++ (46 :: (dig (a / 65536 % 256).toNat ++ (46 :: (dig (a / 256 % 256).toNat ++ (46 :: (dig (a % 256).toNat ++ (47 :: dig b.toNat))))))) := by
  simp [txtL, octs, Lib.join, List.intercalate]
/-- a text tells its prefix, whatever stands behind it, but for digits -/
theorem txtL_span {a b a' b' : Int} {s t : List UInt8} (ha : isA a) (ha' : isA a') (hb : 0 ≤ b) (hb' : 0 ≤ b') (hs : offD s) (ht : offD t) (h : txtL a b ++ s = txtL a' b' ++ t) : a = a' ∧ b = b' ∧ s = t := by
  rw [txtL_eq, txtL_eq] at h
  simp only [List.append_assoc, List.cons_append] at h
  have d46 : ∀ l, offD ((46 : UInt8) :: l) := fun l => offD_cons _ _ (by decide)
  have d47 : ∀ l, offD ((47 : UInt8) :: l) := fun l => offD_cons _ _ (by decide)
  obtain ⟨h1, h⟩ := dig_span (d46 _) (d46 _) h
  have h := (List.cons.inj h).2
  obtain ⟨h2, h⟩ := dig_span (d46 _) (d46 _) h
  have h := (List.cons.inj h).2
  obtain ⟨h3, h⟩ := dig_span (d46 _) (d46 _) h
  have h := (List.cons.inj h).2
  obtain ⟨h4, h⟩ := dig_span (d47 _) (d47 _) h
  have h := (List.cons.inj h).2
  obtain ⟨h5, h⟩ := dig_span hs ht h
  have := ha.1; have := ha.2; have := ha'.1; have := ha'.2
  refine ⟨by omega, by omega, h⟩
end Go.Proofs.Ytndcjncamdhbfaa.P
