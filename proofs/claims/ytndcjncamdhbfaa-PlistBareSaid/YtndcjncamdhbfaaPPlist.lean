/- Rules: what the program's and the document's functions come to, in numbers alone. -/
import Derived.Test.YtndcjncamdhbfaaPText
import Derived.Test.YtndcjncamdhbfaaPx10
import Derived.Test.YtndcjncamdhbfaaPx3
import Derived.Test.YtndcjncamdhbfaaPx4
import Derived.Test.YtndcjncamdhbfaaPx6
import Derived.Test.YtndcjncamdhbfaaPx7
set_option linter.unusedVariables false
set_option linter.unusedSimpArgs false
namespace Go.Proofs.Ytndcjncamdhbfaa.P
open Go.RowKit Go.Proofs.YtndcjncamdhbfaaW.PrintWords Go.Proofs.YtndcjncamdhbfaaW.PrintLast Go.Proofs.YtndcjncamdhbfaaW.PrintMore

/-- may a rule be? -/
def ruleB (a b g l : Int) : Bool := mayB a b && (decide (b ≤ g) && (decide (g ≤ l) && decide (l ≤ 32)))
theorem ruleB_iff (a b g l : Int) : ruleB a b g l = true ↔ mayB a b = true ∧ b ≤ g ∧ g ≤ l ∧ l ≤ 32 := by unfold ruleB; simp
theorem may2_is (a b g l : Int) (p : Bool) (ha : isA a) : plist_may.f a b g l p = some (ruleB a b g l) := by
  unfold plist_may.f ruleB
  rw [may_is a b ha, Option.bind_some]
  cases h : mayB a b <;> by_cases h1 : b ≤ g <;> by_cases h2 : g ≤ l <;> simp [h1, h2]
theorem refMay2_ev (a b g l : Int) (p : Bool) (ha : isA a) : Evt (fun k => whirligigref02_May.f k a b g l p) (ruleB a b g l) := by
  unfold whirligigref02_May.f ruleB
  refine Evt.bind (refMay_ev a b ha) (Evt.of fun k => ?_)
  cases h : mayB a b <;> by_cases h1 : b ≤ g <;> by_cases h2 : g ≤ l <;> simp [h1, h2]
/-- does a prefix meet a rule that may be? -/
def metB (a b g l c d : Int) : Bool := contB a b c d && (decide (g ≤ d) && decide (d ≤ l))
theorem met_is (a b g l : Int) (p : Bool) (c d : Int) (ha : isA a) (hc : isA c) : plist_met.f a b g l p c d = some (metB a b g l c d) := by
  unfold plist_met.f metB
  rw [contains_is a b c d ha hc, Option.bind_some]
  cases h : contB a b c d <;> by_cases h1 : g ≤ d <;> simp [h1]
theorem met2_is (a b g l : Int) (p : Bool) (c d : Int) (ha : isA a) (hc : isA c) : plist_Met.f a b g l p c d = some (ruleB a b g l && metB a b g l c d) := by
  unfold plist_Met.f
  rw [may2_is a b g l p ha, Option.bind_some, met_is a b g l p c d ha hc]
  cases ruleB a b g l <;> simp
theorem refMet_ev (a b g l : Int) (p : Bool) (c d : Int) (ha : isA a) (hc : isA c) : Evt (fun k => whirligigref02_Met.f k a b g l p c d) (ruleB a b g l && metB a b g l c d) := by
  unfold whirligigref02_Met.f metB
  refine Evt.bind (refMay2_ev a b g l p ha) ?_
  cases ruleB a b g l
  · exact Evt.ite_neg (by simp) (Evt.pure _)
  · refine Evt.ite_pos rfl (Evt.bind (refContains_ev a b c d ha hc) (Evt.of fun k => ?_))
    cases h : contB a b c d <;> by_cases h1 : g ≤ d <;> simp [h1]
theorem pdigits_is (n : Int) (h0 : 0 ≤ n) (h1 : n < 100) : plist_digits.f n = some (tx (dig n.toNat)) := by
  unfold plist_digits.f
  obtain ⟨n, rfl⟩ := Int.eq_ofNat_of_zero_le h0
  by_cases h : n < 10
  · rw [if_pos (by omega), num1 n h, Int.toNat_natCast, dig_small n h]
  · rw [if_neg (by omega), Int.toNat_natCast, dig_big n h, dig_small (n / 10) (by omega)]
    have e : Int.tmod (n : Int) 10 = ((n % 10 : Nat) : Int) := by rw [Int.tmod_eq_emod_of_nonneg (by omega)]; omega
    have e2 : Int.tdiv (n : Int) 10 = ((n / 10 : Nat) : Int) := by rw [Int.tdiv_eq_ediv_of_nonneg (by omega)]; omega
    rw [e, e2, wrap64_in ((n / 10 : Nat) : Int) (by omega) (by omega), wrap64_in (48 + ((n / 10 : Nat) : Int)) (by omega) (by omega), wrap64_in (48 + ((n % 10 : Nat) : Int)) (by omega) (by omega)]
    have f1 : (48 + ((n / 10 : Nat) : Int)) % 256 = 48 + ((n / 10 : Nat) : Int) := by omega
    have f2 : (48 + ((n % 10 : Nat) : Int)) % 256 = 48 + ((n % 10 : Nat) : Int) := by omega
    rw [f1, f2, ← byte_dig (n / 10) (by omega), ← byte_dig (n % 10) (by omega)]; rfl
/-- a rule's text -/
def geL (b g : Int) : List UInt8 := if g = b then [] else [32, 103, 101, 32] ++ dig g.toNat
def leL (g l : Int) : List UInt8 := if l = g then [] else [32, 108, 101, 32] ++ dig l.toNat
def ruleL (a b g l : Int) (p : Bool) : List UInt8 := (if p then [112, 101, 114, 109, 105, 116, 32] else [100, 101, 110, 121, 32]) ++ (txtL a b ++ (geL b g ++ leL g l))
theorem txtL_len (a b : Int) (ha : isA a) (hb : b ≤ 999) : (txtL a b).length ≤ 19 := by
  have h1 := octs_len a ha
  have h2 := dig3 b (by omega)
  unfold txtL
  simp
  omega
theorem textJ_ev (s : List UInt8) (a b g l : Int) (p : Bool) (ha : isA a) (h : ruleB a b g l = true) (hs : s.length ≤ 100) : Evt (fun k => plist_Text.j0 k (tx s) a b g l p) (tx (s ++ (txtL a b ++ (geL b g ++ leL g l)))) := by
  obtain ⟨hm, h1, h2, h3⟩ := (ruleB_iff a b g l).1 h
  obtain ⟨h0, h4, _⟩ := (mayB_iff a b).1 hm
  have hl := txtL_len a b ha (by omega)
  have hg := dig3 g (by omega)
  have hd := dig3 l (by omega)
  refine Evt.step ?_
  simp only [plist_Text.j0]
  have e1 : (⟨#[32, 108, 101, 32]⟩ : ByteArray) = tx [32, 108, 101, 32] := rfl
  have e2 : (⟨#[32, 103, 101, 32]⟩ : ByteArray) = tx [32, 103, 101, 32] := rfl
  have ht := addrText_ev a b ha
  rw [if_pos hm] at ht
  simp only [e1, e2]
  refine Evt.bind ht ?_
  simp only [tx_app, tx_size]
  refine Evt.ite_pos (by omega) ?_
  by_cases hgb : g = b
  · refine Evt.ite_pos hgb ?_
    by_cases hlg : l = g
    · refine Evt.ite_pos hlg (Evt.of fun k => ?_)
      simp [geL, leL, hgb, hlg]
    · refine Evt.ite_neg hlg (Evt.bindc (pdigits_is l (by omega) (by omega)) ?_)
      simp only [tx_app, tx_size]
      refine Evt.ite_pos (by omega) (Evt.ite_pos (by simp; omega) (Evt.of fun k => ?_))
      simp [geL, leL, hgb, hlg]
      rw [if_neg (by omega)]
  · refine Evt.ite_neg hgb (Evt.bindc (pdigits_is g (by omega) (by omega)) ?_)
    simp only [tx_app, tx_size]
    refine Evt.ite_pos (by omega) (Evt.ite_pos (by simp; omega) ?_)
    by_cases hlg : l = g
    · refine Evt.ite_pos hlg (Evt.of fun k => ?_)
      simp [geL, leL, hgb, hlg]
    · refine Evt.ite_neg hlg (Evt.bindc (pdigits_is l (by omega) (by omega)) ?_)
      simp only [tx_app, tx_size]
      refine Evt.ite_pos (by omega) (Evt.ite_pos (by simp; omega) (Evt.of fun k => ?_))
      simp [geL, leL, hgb, hlg]
def ruleTx (a b g l : Int) (p : Bool) : List UInt8 := if ruleB a b g l then ruleL a b g l p else []
theorem plistText_ev (a b g l : Int) (p : Bool) (ha : isA a) : Evt (fun k => plist_Text.f k a b g l p) (tx (ruleTx a b g l p)) := by
  unfold plist_Text.f ruleTx
  refine Evt.bindc (may2_is a b g l p ha) ?_
  by_cases h : ruleB a b g l = true
  · rw [if_pos h]
    refine Evt.ite_pos h ?_
    cases p
    · refine Evt.ite_neg (by simp) ?_
      have := textJ_ev [100, 101, 110, 121, 32] a b g l false ha h (by simp)
      exact this
    · refine Evt.ite_pos rfl ?_
      have := textJ_ev [112, 101, 114, 109, 105, 116, 32] a b g l true ha h (by simp)
      exact this
  · rw [if_neg h]
    exact Evt.ite_neg h (Evt.pure _)
theorem refTextJ_ev (s : List UInt8) (a b g l : Int) (p : Bool) (ha : isA a) (h : ruleB a b g l = true) (hs : s.length ≤ 100) : Evt (fun k => whirligigref02_Text.j0 k (tx s) a b g l p) (tx (s ++ ([32] ++ (txtL a b ++ (geL b g ++ leL g l))))) := by
  obtain ⟨hm, h1, h2, h3⟩ := (ruleB_iff a b g l).1 h
  obtain ⟨h0, h4, _⟩ := (mayB_iff a b).1 hm
  have hl := txtL_len a b ha (by omega)
  have hg := dig3 g (by omega)
  have hd := dig3 l (by omega)
  refine Evt.step ?_
  simp only [whirligigref02_Text.j0]
  have e0 : (⟨#[32]⟩ : ByteArray) = tx [32] := rfl
  have e1 : (⟨#[32, 108, 101, 32]⟩ : ByteArray) = tx [32, 108, 101, 32] := rfl
  have e2 : (⟨#[32, 103, 101, 32]⟩ : ByteArray) = tx [32, 103, 101, 32] := rfl
  have ht := refText_ev a b ha
  rw [if_pos hm] at ht
  simp only [e0, e1, e2]
  rw [tx_size]
  refine Evt.ite_pos (by omega) (Evt.bind ht ?_)
  simp only [tx_app, tx_size]
  refine Evt.ite_pos (by simp; omega) ?_
  by_cases hgb : g = b
  · refine Evt.ite_neg (by omega) ?_
    by_cases hlg : l = g
    · refine Evt.ite_neg (by omega) (Evt.of fun k => ?_)
      simp [geL, leL, hgb, hlg]
    · refine Evt.ite_pos (by omega) (Evt.ite_pos (by simp; omega) (Evt.bind (refNumber_ev l (by omega) (by omega)) ?_))
      simp only [tx_app, tx_size]
      refine Evt.ite_pos (by simp; omega) (Evt.of fun k => ?_)
      simp [geL, leL, hgb, hlg]
      rw [if_neg (by omega)]
  · refine Evt.ite_pos (by omega) (Evt.ite_pos (by simp; omega) (Evt.bind (refNumber_ev g (by omega) (by omega)) ?_))
    simp only [tx_app, tx_size]
    refine Evt.ite_pos (by simp; omega) ?_
    by_cases hlg : l = g
    · refine Evt.ite_neg (by omega) (Evt.of fun k => ?_)
      simp [geL, leL, hgb, hlg]
    · refine Evt.ite_pos (by omega) (Evt.ite_pos (by simp; omega) (Evt.bind (refNumber_ev l (by omega) (by omega)) ?_))
      simp only [tx_app, tx_size]
      refine Evt.ite_pos (by simp; omega) (Evt.of fun k => ?_)
      simp [geL, leL, hgb, hlg]
theorem refText2_ev (a b g l : Int) (p : Bool) (ha : isA a) : Evt (fun k => whirligigref02_Text.f k a b g l p) (tx (ruleTx a b g l p)) := by
  unfold whirligigref02_Text.f ruleTx
  refine Evt.bind (refMay2_ev a b g l p ha) ?_
  by_cases h : ruleB a b g l = true
  · rw [if_pos h]
    refine Evt.ite_pos h ?_
    cases p
    · refine Evt.ite_neg (by simp) ?_
      have := refTextJ_ev [100, 101, 110, 121] a b g l false ha h (by simp)
      exact this
    · refine Evt.ite_pos rfl ?_
      have := refTextJ_ev [112, 101, 114, 109, 105, 116] a b g l true ha h (by simp)
      exact this
  · rw [if_neg h]
    exact Evt.ite_neg h (Evt.pure _)
theorem lives2_ev : Evt (fun k => whirligiglaw02_lives.f k) true := by
  unfold whirligiglaw02_lives.f
  refine Evt.bindc (show plist_Met.f 167772160 8 16 24 true 167837696 16 = some true by rw [met2_is _ _ _ _ _ _ _ (by unfold isA; omega) (by unfold isA; omega)]; decide +kernel) (Evt.ite_pos rfl ?_)
  refine Evt.bindc (show plist_Met.f 167772160 8 16 24 true 167772160 8 = some false by rw [met2_is _ _ _ _ _ _ _ (by unfold isA; omega) (by unfold isA; omega)]; decide +kernel) (Evt.ite_neg (by simp) ?_)
  refine Evt.bind (plistText_ev 167772160 8 16 24 true (by unfold isA; omega)) (Evt.of fun k => ?_)
  rw [tx_list]
  decide +kernel
theorem ruleL_inj {a b g l a' b' g' l' : Int} {p p' : Bool} (ha : isA a) (ha' : isA a') (h : ruleB a b g l = true) (h' : ruleB a' b' g' l' = true) (e : ruleL a b g l p = ruleL a' b' g' l' p') : a = a' ∧ b = b' ∧ g = g' ∧ l = l' ∧ p = p' := by
  obtain ⟨hm, h1, h2, h3⟩ := (ruleB_iff a b g l).1 h
  obtain ⟨h0, h4, _⟩ := (mayB_iff a b).1 hm
  obtain ⟨hm', h1', h2', h3'⟩ := (ruleB_iff a' b' g' l').1 h'
  obtain ⟨h0', h4', _⟩ := (mayB_iff a' b').1 hm'
  have hp : p = p' := by
    cases p <;> cases p' <;> first | rfl | (simp [ruleL] at e)
  subst hp
  have e' : txtL a b ++ (geL b g ++ leL g l) = txtL a' b' ++ (geL b' g' ++ leL g' l') := List.append_cancel_left e
  have off : ∀ x y z : Int, offD (geL x y ++ leL y z) := by
    intro x y z
    unfold geL leL
    split <;> split <;> first | exact offD_nil | exact offD_cons _ _ (by decide)
  obtain ⟨rfl, rfl, e2⟩ := txtL_span ha ha' h0 h0' (off _ _ _) (off _ _ _) e'
  have offl : ∀ y z : Int, offD (leL y z) := by
    intro y z
    unfold leL
    split
    · exact offD_nil
    · exact offD_cons _ _ (by decide)
  have hle : ∀ y z z' : Int, 0 ≤ z → 0 ≤ z' → leL y z = leL y z' → z = z' := by
    intro y z z' hz hz' hh
    unfold leL at hh
    by_cases c1 : z = y <;> by_cases c2 : z' = y <;> simp [c1, c2] at hh
    · omega
    · have := dig_inj hh; omega
  have le2 : ∀ y z : Int, leL y z = [] ∨ ∃ t, leL y z = 32 :: 108 :: t := by
    intro y z
    unfold leL
    split
    · exact .inl rfl
    · exact .inr ⟨_, rfl⟩
  have hge : g = g' ∧ leL g l = leL g' l' := by
    unfold geL at e2
    by_cases c1 : g = b <;> by_cases c2 : g' = b
    · subst c1; subst c2; simp at e2; exact ⟨rfl, e2⟩
    · rw [if_pos c1, if_neg c2] at e2
      rcases le2 g l with q | ⟨t, q⟩ <;> rw [q] at e2 <;> simp at e2
    · rw [if_neg c1, if_pos c2] at e2
      rcases le2 g' l' with q | ⟨t, q⟩ <;> rw [q] at e2 <;> simp at e2
    · rw [if_neg c1, if_neg c2, List.append_assoc, List.append_assoc] at e2
      have e3 := List.append_cancel_left e2
      obtain ⟨q1, q2⟩ := dig_span (offl _ _) (offl _ _) e3
      exact ⟨by omega, q2⟩
  obtain ⟨rfl, e4⟩ := hge
  exact ⟨rfl, rfl, rfl, hle _ _ _ (by omega) (by omega) e4, rfl⟩
end Go.Proofs.Ytndcjncamdhbfaa.P
