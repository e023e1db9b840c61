/- Blanks and remarks between two texts without a fault: on lists of bytes. -/
import Derived.Test.YtpolmnemknehaaaLexP
set_option linter.unusedVariables false
set_option linter.unusedSimpArgs false
namespace Go.Proofs.Ytpolmnemknehaaa

theorem takeWhile_app (q : UInt8 → Bool) (hq : q 10 = false) (rest : List UInt8) : ∀ l : List UInt8, (l ++ 10 :: rest).takeWhile q = l.takeWhile q
  | [] => by simp [hq]
  | c :: l => by
    by_cases h : q c = true
    · simp [h, takeWhile_app q hq rest l]
    · simp [h]

theorem textStep_app (cs rest : List UInt8) (k : Int) (off len n : Nat) (fr : Bool) (h : textStep cs = .tok k off len n fr) : textStep (cs ++ 10 :: rest) = .tok k off len n fr := by
  unfold textStep at *
  rw [takeWhile_app pPlain (by decide)]
  have hle : (cs.takeWhile pPlain).length ≤ cs.length := (List.takeWhile_sublist _).length_le
  rw [List.drop_append_of_le_length hle]
  cases hd : cs.drop (cs.takeWhile pPlain).length with
  | nil => rw [hd] at h; cases h
  | cons b t => rw [hd] at h; exact h

theorem textStep_noskip (cs : List UInt8) (n : Nat) : textStep cs ≠ .skip n := by
  unfold textStep
  split
  · simp
  · (repeat' split) <;> simp

theorem step_app {free : Bool} {c : UInt8} {cs rest : List UInt8} (h : ∀ e, step free (c :: cs) ≠ .bad e) : step free (c :: cs ++ 10 :: rest) = step free (c :: cs) := by
  have e1 := takeWhile_app (fun x => x != 10) (by decide) rest (c :: cs)
  have e2 := takeWhile_app pLetter (by decide) rest (c :: cs)
  have e3 : free && c == 34 → textStep (cs ++ 10 :: rest) = textStep cs ∨ ∃ e, textStep cs = .bad e := by
    intro _
    cases ht : textStep cs with
    | bad e => exact .inr ⟨e, rfl⟩
    | skip n => exact absurd ht (textStep_noskip _ _)
    | tok k off len n fr => exact .inl (textStep_app _ _ _ _ _ _ _ ht)
  simp only [List.cons_append] at e1 e2 ⊢
  simp only [step] at h ⊢
  rw [e1, e2]
  split
  · rfl
  · rename_i h1
    rw [if_neg h1] at h
    split
    · rfl
    · rename_i h2
      rw [if_neg h2] at h
      split
      · rfl
      · rename_i h3
        rw [if_neg h3] at h
        split
        · rename_i h4
          rw [if_pos h4] at h
          rcases e3 h4 with h5 | ⟨e, h5⟩
          · exact h5
          · exact absurd h5 (h e)
        · rfl

theorem scan_app : ∀ (k : Nat) (free : Bool) (p : Int × Int) (a rest : List UInt8) (ts : List Tok), a.length < k → scan k free p a = .ok ts →
    ∃ free' p', ∀ K, a.length + rest.length + 1 < K → scan K free p (a ++ 10 :: rest) = (scan K free' p' (10 :: rest)).map (ts ++ ·)
  | 0, _, _, _, _, _, h, _ => by omega
  | k + 1, free, p, [], rest, ts, _, h => by
    simp only [scan, Except.ok.injEq] at h
    subst h
    refine ⟨free, p, fun K _ => ?_⟩
    simp only [List.nil_append]
    cases scan K free p (10 :: rest) <;> rfl
  | k + 1, free, p, c :: cs, rest, ts, hk, h => by
    simp only [scan] at h
    cases hs : step free (c :: cs) with
    | bad e => rw [hs] at h; cases h
    | skip n =>
      rw [hs] at h
      simp only at h
      have hn := step_skip hs
      obtain ⟨f', p', hr⟩ := scan_app k true _ ((c :: cs).drop n) rest ts (by simp at hk ⊢; omega) h
      refine ⟨f', p', fun K hK => ?_⟩
      obtain ⟨K, rfl⟩ : ∃ m, K = m + 1 := ⟨K - 1, by omega⟩
      have hst : step free (c :: cs ++ 10 :: rest) = .skip n := by rw [step_app (by rw [hs]; simp), hs]
      simp only [List.cons_append] at hst ⊢
      simp only [scan, hst]
      rw [← List.cons_append, List.take_append_of_le_length (by simp; omega), List.drop_append_of_le_length (by simp; omega)]
      rw [scan_fuel K (K + 1) _ _ _ (by simp at hK ⊢; omega) (by simp at hK ⊢; omega)]
      exact hr (K + 1) (by simp at hK ⊢; omega)
    | tok kd off len n fr =>
      rw [hs] at h
      simp only at h
      have hn := step_tok hs
      cases h2 : scan k fr (advs p ((c :: cs).take n)) ((c :: cs).drop n) with
      | error e => rw [h2] at h; cases h
      | ok us =>
        rw [h2] at h
        simp only [Except.map, Except.ok.injEq] at h
        obtain ⟨f', p', hr⟩ := scan_app k fr _ ((c :: cs).drop n) rest us (by simp at hk ⊢; omega) h2
        refine ⟨f', p', fun K hK => ?_⟩
        obtain ⟨K, rfl⟩ : ∃ m, K = m + 1 := ⟨K - 1, by omega⟩
        have hst : step free (c :: cs ++ 10 :: rest) = .tok kd off len n fr := by rw [step_app (by rw [hs]; simp), hs]
        have hto : ((c :: cs ++ 10 :: rest).drop off).take len = ((c :: cs).drop off).take len := by
          rw [List.drop_append_of_le_length (by simp; omega), List.take_append_of_le_length (by simp; omega)]
        have htn : (c :: cs ++ 10 :: rest).take n = (c :: cs).take n := List.take_append_of_le_length (by simp; omega)
        have hdn : (c :: cs ++ 10 :: rest).drop n = (c :: cs).drop n ++ 10 :: rest := List.drop_append_of_le_length (by simp; omega)
        simp only [List.cons_append] at hst hto htn hdn ⊢
        conv => lhs; rw [scan]
        simp only [hst]
        rw [hto, htn, hdn]
        rw [scan_fuel K (K + 1) _ _ _ (by simp at hK ⊢; omega) (by simp at hK ⊢; omega)]
        rw [hr (K + 1) (by simp at hK ⊢; omega)]
        subst h
        cases scan (K + 1) f' p' (10 :: rest) <;> rfl

/-- kinds and texts -/
def kt (ts : List Tok) : List (Int × List UInt8) := ts.map fun t => (t.k, t.t)

theorem scan_pos : ∀ (k : Nat) (free : Bool) (p q : Int × Int) (l : List UInt8) (ts : List Tok), scan k free p l = .ok ts → ∃ us, scan k free q l = .ok us ∧ kt us = kt ts
  | 0, _, _, _, _, _, h => by simp [scan] at h
  | k + 1, _, _, _, [], ts, h => by simp [scan] at h; subst h; exact ⟨[], rfl, rfl⟩
  | k + 1, free, p, q, c :: cs, ts, h => by
    simp only [scan] at h ⊢
    cases hs : step free (c :: cs) with
    | bad e => rw [hs] at h; cases h
    | skip n =>
      rw [hs] at h
      exact scan_pos k _ _ _ _ _ h
    | tok kd off len n fr =>
      rw [hs] at h
      simp only at h ⊢
      cases h2 : scan k fr (advs p ((c :: cs).take n)) ((c :: cs).drop n) with
      | error e => rw [h2] at h; cases h
      | ok us =>
        rw [h2] at h
        simp only [Except.map, Except.ok.injEq] at h
        obtain ⟨vs, hv, he⟩ := scan_pos k fr _ (advs q ((c :: cs).take n)) _ _ h2
        rw [hv]
        subst h
        exact ⟨_, rfl, by simp [kt] at he ⊢; exact he⟩

theorem scan_blank (k : Nat) (free : Bool) (p : Int × Int) (c : UInt8) (l : List UInt8) (hc : pBlank c = true) : scan (k + 1) free p (c :: l) = scan k true (adv p c) l := by
  simp [scan, step, hc, advs]

theorem takeWhile_all (q : UInt8 → Bool) (l rest : List UInt8) (d : UInt8) (h : ∀ x ∈ l, q x = true) (hd : q d = false) : (l ++ d :: rest).takeWhile q = l := by
  induction l with
  | nil => simp [hd]
  | cons c l ih => simp [h c (by simp), ih (fun x hx => h x (by simp [hx]))]

theorem blanks_law (a b r : List UInt8) (ts us : List Tok) (hr : ∀ x ∈ r, x ≠ 10) (ha : scan (a.length + 1) true (1, 1) a = .ok ts) (hb : scan (b.length + 1) true (1, 1) b = .ok us) :
    ∃ vs, scan ((a ++ [10, 32, 9, 35] ++ r ++ [10, 13] ++ b).length + 1) true (1, 1) (a ++ [10, 32, 9, 35] ++ r ++ [10, 13] ++ b) = .ok (ts ++ vs) ∧ kt vs = kt us := by
  have e : a ++ [10, 32, 9, 35] ++ r ++ [10, 13] ++ b = a ++ 10 :: (32 :: 9 :: 35 :: (r ++ 10 :: 13 :: b)) := by simp
  rw [e]
  obtain ⟨f', p', h1⟩ := scan_app _ true (1, 1) a (32 :: 9 :: 35 :: (r ++ 10 :: 13 :: b)) ts (by omega) ha
  have hlen : (a ++ 10 :: (32 :: 9 :: 35 :: (r ++ 10 :: 13 :: b))).length = a.length + r.length + b.length + 6 := by simp; omega
  rw [hlen, h1 _ (by simp; omega)]
  have key : ∃ vs, scan (a.length + r.length + b.length + 6 + 1) f' p' (10 :: 32 :: 9 :: 35 :: (r ++ 10 :: 13 :: b)) = .ok vs ∧ kt vs = kt us := by
    rw [scan_blank _ _ _ 10 _ (by decide), scan_blank _ _ _ 32 _ (by decide), scan_blank _ _ _ 9 _ (by decide)]
    have hst : step true (35 :: (r ++ 10 :: 13 :: b)) = .skip (r.length + 1) := by
      have := takeWhile_all (fun x => x != 10) (35 :: r) (13 :: b) 10 (by intro x hx; simp at hx; rcases hx with rfl | hx; exact (by decide); simpa using hr x hx) (by decide)
      simp only [List.cons_append] at this
      simp only [step]
      rw [if_neg (by decide), if_pos trivial, this]
      rfl
    rw [show a.length + r.length + b.length + 4 = (a.length + r.length + b.length + 3) + 1 from rfl, scan]
    simp only [hst]
    rw [show (35 :: (r ++ 10 :: 13 :: b)).drop (r.length + 1) = 10 :: 13 :: b from by simp]
    rw [scan_blank _ _ _ 10 _ (by decide), scan_blank _ _ _ 13 _ (by decide)]
    obtain ⟨vs, hv, he⟩ := scan_pos _ _ _ (adv (adv (advs (adv (adv (adv p' 10) 32) 9) (List.take (r.length + 1) (35 :: (r ++ 10 :: 13 :: b)))) 10) 13) _ _ hb
    refine ⟨vs, ?_, he⟩
    rw [← hv]
    exact scan_fuel _ _ _ _ _ (by omega) (by omega)
  obtain ⟨vs, hv, he⟩ := key
  exact ⟨vs, by rw [hv]; rfl, he⟩

end Go.Proofs.Ytpolmnemknehaaa
