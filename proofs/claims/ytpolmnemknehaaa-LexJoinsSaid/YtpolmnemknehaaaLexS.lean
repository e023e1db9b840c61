/- Tokens that were scanned, joined, and scanned again: on lists of bytes. -/
import Derived.Test.YtpolmnemknehaaaLexQ
namespace Go.Proofs.Ytpolmnemknehaaa

/-- what a scanned token is like -/
def WF (t : Tok) : Prop :=
  (t.k = 2 ∧ ∃ c, t.t = [c] ∧ pMark c = true) ∨ (t.k = 1 ∧ (∀ x ∈ t.t, pPlain x = true) ∧ t.t.length ≤ 64) ∨ (t.k = 0 ∧ t.t ≠ [] ∧ (∀ x ∈ t.t, pLetter x = true) ∧ t.t.length ≤ 32)

theorem takeWhile_sat (q : UInt8 → Bool) (l : List UInt8) : ∀ x ∈ l.takeWhile q, q x = true := by
  intro x hx
  induction l with
  | nil => simp at hx
  | cons c l ih =>
    by_cases h : q c = true
    · rw [List.takeWhile_cons_of_pos h] at hx
      rcases List.mem_cons.1 hx with rfl | hx
      · exact h
      · exact ih hx
    · rw [List.takeWhile_cons_of_neg h] at hx; simp at hx

theorem take_takeWhile (q : UInt8 → Bool) (l : List UInt8) : l.take (l.takeWhile q).length = l.takeWhile q := by
  induction l with
  | nil => rfl
  | cons c l ih =>
    by_cases h : q c = true
    · rw [List.takeWhile_cons_of_pos h]; simp [ih]
    · rw [List.takeWhile_cons_of_neg h]; rfl

theorem step_wf {free : Bool} {c : UInt8} {cs : List UInt8} {k : Int} {off len n : Nat} {fr : Bool} (h : step free (c :: cs) = .tok k off len n fr) (l' c' : Int) :
    WF ⟨k, ((c :: cs).drop off).take len, l', c'⟩ := by
  simp only [step] at h
  split at h
  · cases h
  · split at h
    · cases h
    · split at h
      · rename_i h3
        cases h
        exact .inl ⟨rfl, c, by simp, h3⟩
      · split at h
        · unfold textStep at h
          split at h
          · cases h
          · rename_i b t hd
            split at h
            · cases h
            · split at h
              · cases h
              · split at h
                · cases h
                · rename_i h9
                  cases h
                  refine .inr (.inl ⟨rfl, ?_, ?_⟩)
                  · simp only [List.drop_succ_cons, List.drop_zero]
                    rw [take_takeWhile]; exact takeWhile_sat _ _
                  · simp; omega
        · split at h
          · rename_i h5
            split at h
            · cases h
            · rename_i h6
              cases h
              refine .inr (.inr ⟨rfl, ?_, ?_, ?_⟩)
              · simp only [List.drop_zero]
                rw [take_takeWhile]
                simp only [Bool.and_eq_true] at h5
                rw [List.takeWhile_cons_of_pos h5.2]; simp
              · simp only [List.drop_zero]
                rw [take_takeWhile]; exact takeWhile_sat _ _
              · simp only [List.drop_zero]
                rw [take_takeWhile]; omega
          · cases h

theorem scan_wf : ∀ (k : Nat) (free : Bool) (p : Int × Int) (l : List UInt8) (ts : List Tok), scan k free p l = .ok ts → ∀ t ∈ ts, WF t
  | 0, _, _, _, _, h => by simp [scan] at h
  | k + 1, _, _, [], ts, h => by simp [scan] at h; subst h; simp
  | k + 1, free, p, c :: cs, ts, h => by
    simp only [scan] at h
    cases hs : step free (c :: cs) with
    | bad e => rw [hs] at h; cases h
    | skip n => rw [hs] at h; exact scan_wf k _ _ _ _ h
    | tok kd off len n fr =>
      rw [hs] at h
      simp only at h
      cases h2 : scan k fr (advs p ((c :: cs).take n)) ((c :: cs).drop n) with
      | error e => rw [h2] at h; cases h
      | ok us =>
        rw [h2] at h
        simp only [Except.map, Except.ok.injEq] at h
        subst h
        intro t ht
        rcases List.mem_cons.1 ht with rfl | ht
        · exact step_wf hs _ _
        · exact scan_wf k _ _ _ _ h2 t ht

/-- the facts on bytes that are wanted -/
theorem u8_facts (c : UInt8) : (pMark c = true → pBlank c = false ∧ (c == 35) = false) ∧ (pLetter c = true → pBlank c = false ∧ (c == 35) = false ∧ pMark c = false ∧ (c == 34) = false) := by
  have key : ∀ i : Fin 256, (pMark (UInt8.ofNat i.val) = true → pBlank (UInt8.ofNat i.val) = false ∧ (UInt8.ofNat i.val == 35) = false) ∧ (pLetter (UInt8.ofNat i.val) = true → pBlank (UInt8.ofNat i.val) = false ∧ (UInt8.ofNat i.val == 35) = false ∧ pMark (UInt8.ofNat i.val) = false ∧ (UInt8.ofNat i.val == 34) = false) := by decide +kernel
  have := key ⟨c.toNat, c.toNat_lt⟩
  simpa using this

theorem takeWhile_end (q : UInt8 → Bool) (l rest : List UInt8) (h : ∀ x ∈ l, q x = true) (hr : ∀ d r, rest = d :: r → q d = false) : (l ++ rest).takeWhile q = l := by
  cases rest with
  | nil =>
    induction l with
    | nil => rfl
    | cons c l ih => simp only [List.append_nil] at ih ⊢; rw [List.takeWhile_cons_of_pos (h c (by simp)), ih (fun x hx => h x (by simp [hx]))]
  | cons d r => exact takeWhile_all q l r d h (hr d r rfl)

/-- one token, and what comes behind it -/
theorem scan_tok (t : Tok) (ht : WF t) (K : Nat) (p : Int × Int) (rest : List UInt8) (last : Bool) (hl : last = true → rest = []) (hK : (piece last t ++ rest).length < K)
    (us : List Tok) (hus : ∀ q, ∃ vs, scan K true q rest = .ok vs ∧ kt vs = kt us) : ∃ vs, scan K true p (piece last t ++ rest) = .ok vs ∧ kt vs = (t.k, t.t) :: kt us := by
  obtain ⟨K, rfl⟩ : ∃ m, K = m + 1 := ⟨K - 1, by omega⟩
  have fuel : ∀ k q, rest.length < k → ∃ vs, scan k true q rest = .ok vs ∧ kt vs = kt us := by
    intro k q hk
    obtain ⟨vs, hv, he⟩ := hus q
    refine ⟨vs, ?_, he⟩
    rw [← hv]
    exact scan_fuel _ _ _ _ _ hk (by simp at hK; omega)
  -- what stands behind a word or a text: a blank, or nothing
  have behind : ∀ k q, (if last then [] else [32] : List UInt8).length + rest.length < k → ∃ vs, scan k false q ((if last then [] else [32]) ++ rest) = .ok vs ∧ kt vs = kt us := by
    intro k q hk
    cases last with
    | true =>
      have hr := hl rfl
      subst hr
      obtain ⟨vs, hv, he⟩ := hus q
      have : vs = [] := by simp [scan] at hv; first | exact hv | exact hv.symm
      subst this
      obtain ⟨k, rfl⟩ : ∃ m, k = m + 1 := ⟨k - 1, by simp at hk; omega⟩
      exact ⟨[], by simp [scan], he⟩
    | false =>
      obtain ⟨k, rfl⟩ : ∃ m, k = m + 1 := ⟨k - 1, by simp at hk; omega⟩
      have e : (if false = true then [] else [32] : List UInt8) ++ rest = 32 :: rest := by simp
      rw [e, scan_blank _ _ _ 32 _ (by decide)]
      exact fuel _ _ (by simp at hk; omega)
  rcases ht with ⟨hk, c, htc, hm⟩ | ⟨hk, hp, hlen⟩ | ⟨hk, hne, hp, hlen⟩
  · -- a mark
    have hpc : piece last t = [c, 10] := by unfold piece; rw [if_pos hk, htc]; rfl
    rw [hpc] at hK ⊢
    have hf := (u8_facts c).1 hm
    have hst : step true (c :: 10 :: rest) = .tok 2 0 1 1 true := by
      simp only [step]
      rw [if_neg (by simp [hf.1]), if_neg (by simpa using hf.2), if_pos hm]
    show ∃ vs, scan (K + 1) true p (c :: 10 :: rest) = .ok vs ∧ _
    rw [scan]
    simp only [hst]
    have hK' : rest.length + 2 < K + 1 := by simp at hK; omega
    obtain ⟨K2, rfl⟩ : ∃ m, K = m + 1 := ⟨K - 1, by omega⟩
    simp only [List.drop_succ_cons, List.drop_zero]
    rw [scan_blank _ _ _ 10 _ (by decide)]
    obtain ⟨vs, hv, he⟩ := fuel K2 (adv (advs p (List.take 1 (c :: 10 :: rest))) 10) (by omega)
    rw [hv]
    exact ⟨_, rfl, by simp [kt, hk, htc] at he ⊢; exact he⟩
  · -- a text
    have hpc : piece last t = 34 :: (t.t ++ 34 :: (if last then [] else [32])) := by unfold piece; rw [if_neg (by omega), if_pos hk]; simp
    rw [hpc] at hK ⊢
    obtain ⟨beh, hbeh⟩ : ∃ x : List UInt8, x = (if last then [] else [32]) := ⟨_, rfl⟩
    rw [← hbeh] at hK behind ⊢
    have e1 : 34 :: (t.t ++ 34 :: beh) ++ rest = 34 :: (t.t ++ 34 :: (beh ++ rest)) := by simp
    rw [e1]
    have htw : (t.t ++ 34 :: (beh ++ rest)).takeWhile pPlain = t.t := takeWhile_end _ _ _ hp (by intro d r h; cases h; decide)
    have hst : step true (34 :: (t.t ++ 34 :: (beh ++ rest))) = .tok 1 1 t.t.length (t.t.length + 2) false := by
      simp only [step]
      rw [if_neg (by decide), if_neg (by decide), if_neg (by decide), if_pos (by decide)]
      unfold textStep
      rw [htw, List.drop_left]
      simp only []
      rw [if_neg (by decide), if_neg (by simp), if_neg (by omega)]
    rw [scan]
    simp only [hst]
    have hd : (34 :: (t.t ++ 34 :: (beh ++ rest))).drop (t.t.length + 2) = beh ++ rest := by
      rw [show (34 :: (t.t ++ 34 :: (beh ++ rest))) = (34 :: t.t ++ [34]) ++ (beh ++ rest) from by simp]
      rw [List.drop_append_of_le_length (by simp)]
      simp
    rw [hd]
    obtain ⟨vs, hv, he⟩ := behind K (advs p (List.take (t.t.length + 2) (34 :: (t.t ++ 34 :: (beh ++ rest))))) (by simp at hK ⊢; omega)
    rw [hv]
    refine ⟨_, rfl, ?_⟩
    simp [kt, hk] at he ⊢
    exact he
  · -- a word
    have hpc : piece last t = t.t ++ (if last then [] else [32]) := by unfold piece; rw [if_neg (by omega), if_neg (by omega)]
    rw [hpc] at hK ⊢
    obtain ⟨beh, hbeh⟩ : ∃ x : List UInt8, x = (if last then [] else [32]) := ⟨_, rfl⟩
    rw [← hbeh] at hK behind ⊢
    have hbr : ∀ d r, beh ++ rest = d :: r → pLetter d = false := by
      intro d r h
      cases last with
      | true => rw [hl rfl] at h; simp at hbeh; subst hbeh; simp at h
      | false => simp at hbeh; subst hbeh; simp at h; rw [← h.1]; decide
    rw [List.append_assoc]
    have htw : (t.t ++ (beh ++ rest)).takeWhile pLetter = t.t := takeWhile_end _ _ _ hp hbr
    obtain ⟨c, cs, hc⟩ : ∃ c cs, t.t = c :: cs := by cases h : t.t with
      | nil => exact absurd h hne
      | cons c cs => exact ⟨c, cs, rfl⟩
    have hf := (u8_facts c).2 (hp c (by rw [hc]; simp))
    have hpl := hp c (by rw [hc]; simp)
    have hst : step true (t.t ++ (beh ++ rest)) = .tok 0 0 t.t.length t.t.length false := by
      rw [hc] at htw ⊢
      simp only [List.cons_append] at htw ⊢
      simp only [step]
      rw [if_neg (by simp [hf.1]), if_neg (by simpa using hf.2.1), if_neg (by simp [hf.2.2.1]), if_neg (by simpa using hf.2.2.2), if_pos (by simp [hpl]), htw, if_neg (by rw [← hc]; omega)]
    have e2 : t.t ++ (beh ++ rest) = c :: (cs ++ (beh ++ rest)) := by rw [hc]; rfl
    rw [e2] at hst ⊢
    rw [scan]
    simp only [hst]
    rw [← e2, List.drop_left]
    obtain ⟨vs, hv, he⟩ := behind K (advs p (List.take t.t.length (t.t ++ (beh ++ rest)))) (by rw [hc] at hK; simp at hK ⊢; omega)
    rw [hv]
    refine ⟨_, rfl, ?_⟩
    simp [kt, hk] at he ⊢
    exact he

theorem back_law : ∀ (ts : List Tok), (∀ t ∈ ts, WF t) → ∀ (K : Nat) (p : Int × Int), (joinL ts).length < K → ∃ us, scan K true p (joinL ts) = .ok us ∧ kt us = kt ts
  | [], _, K, p, hK => by
    obtain ⟨K, rfl⟩ : ∃ m, K = m + 1 := ⟨K - 1, by omega⟩
    exact ⟨[], rfl, rfl⟩
  | t :: ts, h, K, p, hK => by
    rw [joinL] at hK ⊢
    obtain ⟨vs, hv, he⟩ := scan_tok t (h t (by simp)) K p (joinL ts) ts.isEmpty (by intro h; simp at h; subst h; rfl) hK ts (fun q => back_law ts (fun x hx => h x (by simp [hx])) K q (by simp at hK; omega))
    exact ⟨vs, hv, he⟩

theorem joinL_kt : ∀ (ts us : List Tok), kt us = kt ts → joinL us = joinL ts
  | [], us, h => by cases us with
    | nil => rfl
    | cons u us => simp [kt] at h
  | t :: ts, us, h => by cases us with
    | nil => simp [kt] at h
    | cons u us =>
      simp only [kt, List.map_cons, List.cons.injEq, Prod.mk.injEq] at h
      have e := joinL_kt ts us h.2
      have hl : us.isEmpty = ts.isEmpty := by
        have := congrArg List.length h.2
        simp at this
        cases us <;> cases ts <;> simp at this ⊢
      rw [joinL, joinL, e, hl]
      unfold piece
      rw [h.1.1, h.1.2]

theorem piece_len (b : Bool) (t : Tok) (h : WF t) : (piece b t).length ≤ 67 := by
  rcases h with ⟨hk, c, htc, _⟩ | ⟨hk, _, hl⟩ | ⟨hk, _, _, hl⟩
  · unfold piece; rw [if_pos hk, htc]; simp
  · unfold piece; rw [if_neg (by omega), if_pos hk]; cases b <;> simp <;> omega
  · unfold piece; rw [if_neg (by omega), if_neg (by omega)]; cases b <;> simp <;> omega
theorem joinL_len : ∀ (ts : List Tok), (∀ t ∈ ts, WF t) → (joinL ts).length ≤ 67 * ts.length
  | [], _ => by simp [joinL]
  | t :: ts, h => by
    have h1 := piece_len ts.isEmpty t (h t (by simp))
    have h2 := joinL_len ts (fun x hx => h x (by simp [hx]))
    rw [joinL]; simp; omega
end Go.Proofs.Ytpolmnemknehaaa
