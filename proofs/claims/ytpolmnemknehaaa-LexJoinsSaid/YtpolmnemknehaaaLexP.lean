/- The scanner as a plain function on lists of bytes: no program in sight. -/
set_option linter.unusedVariables false
set_option linter.unusedSimpArgs false
namespace Go.Proofs.Ytpolmnemknehaaa

def adv (p : Int × Int) (b : UInt8) : Int × Int := if b.toNat = 10 then (p.1 + 1, 1) else (p.1, p.2 + 1)
def advs (p : Int × Int) (l : List UInt8) : Int × Int := l.foldl adv p

def pBlank (c : UInt8) : Bool := c == 32 || c == 9 || c == 13 || c == 10
def pMark (c : UInt8) : Bool := c == 123 || c == 125 || c == 59
def pPlain (c : UInt8) : Bool := decide (32 ≤ c.toNat) && decide (c.toNat ≤ 126) && (c != 34)
def pLetter (c : UInt8) : Bool := (decide (97 ≤ c.toNat) && decide (c.toNat ≤ 122)) || (decide (48 ≤ c.toNat) && decide (c.toNat ≤ 57)) || c == 46 || c == 58 || c == 47 || c == 45 || c == 95

structure Tok where
  k : Int
  t : List UInt8
  l : Int
  c : Int

inductive Step where
  | bad (e : Int)
  | skip (n : Nat)
  | tok (k : Int) (off len n : Nat) (free : Bool)

def textStep (cs : List UInt8) : Step :=
  match cs.drop (cs.takeWhile pPlain).length with
  | [] => .bad 3
  | b :: _ => if b = 10 then .bad 3 else if b ≠ 34 then .bad 4 else if 64 < (cs.takeWhile pPlain).length then .bad 2 else .tok 1 1 (cs.takeWhile pPlain).length ((cs.takeWhile pPlain).length + 2) false

def step (free : Bool) : List UInt8 → Step
  | [] => .bad 4
  | c :: cs =>
    if pBlank c then .skip 1
    else if c = 35 then .skip ((c :: cs).takeWhile (· != 10)).length
    else if pMark c then .tok 2 0 1 1 true
    else if free && c == 34 then textStep cs
    else if free && pLetter c then
      if 32 < ((c :: cs).takeWhile pLetter).length then .bad 2 else .tok 0 0 ((c :: cs).takeWhile pLetter).length ((c :: cs).takeWhile pLetter).length false
    else .bad 4

def scan : Nat → Bool → Int × Int → List UInt8 → Except Int (List Tok)
  | 0, _, _, _ => .error 4
  | _ + 1, _, _, [] => .ok []
  | k + 1, free, p, c :: cs =>
    match step free (c :: cs) with
    | .bad e => .error e
    | .skip n => scan k true (advs p ((c :: cs).take n)) ((c :: cs).drop n)
    | .tok kd off len n fr => (scan k fr (advs p ((c :: cs).take n)) ((c :: cs).drop n)).map fun ts => ⟨kd, ((c :: cs).drop off).take len, p.1, p.2⟩ :: ts

/-- how much a step takes -/
theorem step_skip {free : Bool} {c : UInt8} {cs : List UInt8} {n : Nat} (h : step free (c :: cs) = .skip n) : 1 ≤ n ∧ n ≤ cs.length + 1 := by
  simp only [step] at h
  split at h
  · cases h; simp
  · split at h
    · rename_i hc
      subst hc
      cases h
      have := (List.takeWhile_sublist (· != 10) (l := (35 : UInt8) :: cs)).length_le
      simp at this ⊢
      exact this
    · split at h
      · cases h
      · split at h
        · unfold textStep at h; split at h; · cases h
          · (repeat' split at h) <;> cases h
        · split at h
          · split at h <;> cases h
          · cases h

theorem step_tok {free : Bool} {c : UInt8} {cs : List UInt8} {k : Int} {off len n : Nat} {fr : Bool} (h : step free (c :: cs) = .tok k off len n fr) :
    1 ≤ n ∧ n ≤ cs.length + 1 ∧ off + len ≤ n := by
  simp only [step] at h
  split at h
  · cases h
  · split at h
    · cases h
    · split at h
      · cases h; simp
      · split at h
        · unfold textStep at h
          split at h
          · cases h
          · rename_i b t hd
            (repeat' split at h) <;> cases h
            have h1 := congrArg List.length hd
            simp at h1
            omega
        · split at h
          · rename_i hl
            split at h
            · cases h
            · cases h
              simp only [Bool.and_eq_true] at hl
              have := (List.takeWhile_sublist pLetter (l := c :: cs)).length_le
              simp only [List.takeWhile_cons_of_pos hl.2, List.length_cons] at this ⊢
              omega
          · cases h

theorem step_bad {free : Bool} {c : UInt8} {cs : List UInt8} {e : Int} (h : step free (c :: cs) = .bad e) : e ≠ 0 := by
  simp only [step] at h
  split at h
  · cases h
  · split at h
    · cases h
    · split at h
      · cases h
      · split at h
        · unfold textStep at h
          split at h
          · cases h; decide
          · (repeat' split at h) <;> cases h <;> decide
        · split at h
          · split at h <;> cases h
            decide
          · cases h; decide

/-- more rounds tell the same -/
theorem scan_fuel : ∀ (k k' : Nat) (free : Bool) (p : Int × Int) (l : List UInt8), l.length < k → l.length < k' → scan k free p l = scan k' free p l
  | 0, _, _, _, _, h, _ => by omega
  | _ + 1, 0, _, _, _, _, h => by omega
  | k + 1, k' + 1, free, p, [], _, _ => rfl
  | k + 1, k' + 1, free, p, c :: cs, h, h' => by
    simp only [scan]
    cases hs : step free (c :: cs) with
    | bad e => rfl
    | skip n =>
      have := step_skip hs
      exact scan_fuel k k' _ _ _ (by simp at h ⊢; omega) (by simp at h' ⊢; omega)
    | tok kd off len n fr =>
      have := step_tok hs
      simp only []
      rw [scan_fuel k k' _ _ _ (by simp at h ⊢; omega) (by simp at h' ⊢; omega)]

/-- no more tokens than bytes -/
theorem scan_count : ∀ (k : Nat) (free : Bool) (p : Int × Int) (l : List UInt8) (ts : List Tok), scan k free p l = .ok ts → ts.length ≤ l.length
  | 0, _, _, _, _, h => by simp [scan] at h
  | k + 1, _, _, [], ts, h => by simp [scan] at h; subst h; simp
  | k + 1, free, p, c :: cs, ts, h => by
    simp only [scan] at h
    cases hs : step free (c :: cs) with
    | bad e => rw [hs] at h; cases h
    | skip n =>
      rw [hs] at h
      have := scan_count k _ _ _ _ h
      simp at this ⊢; omega
    | tok kd off len n fr =>
      rw [hs] at h
      have hn := step_tok hs
      simp only at h
      cases h2 : scan k fr (advs p ((c :: cs).take n)) ((c :: cs).drop n) with
      | error e => rw [h2] at h; cases h
      | ok us =>
        rw [h2] at h
        simp only [Except.map, Except.ok.injEq] at h
        have := scan_count k _ _ _ _ h2
        subst h
        simp at this ⊢; omega

/-! tokens joined -/
def piece (last : Bool) (t : Tok) : List UInt8 := if t.k = 2 then t.t ++ [10] else (if t.k = 1 then [34] ++ t.t ++ [34] else t.t) ++ (if last then [] else [32])
def joinL : List Tok → List UInt8
  | [] => []
  | t :: ts => piece ts.isEmpty t ++ joinL ts
def pieceAt (ts : List Tok) (k : Nat) : List UInt8 := match ts[k]? with | some t => piece (k + 1 == ts.length) t | none => []
def joinTo (ts : List Tok) : Nat → List UInt8
  | 0 => []
  | k + 1 => joinTo ts k ++ pieceAt ts k

theorem joinL_drop (ts : List Tok) (k : Nat) (h : k < ts.length) : joinL (ts.drop k) = pieceAt ts k ++ joinL (ts.drop (k + 1)) := by
  rw [List.drop_eq_getElem_cons h, joinL, pieceAt, List.getElem?_eq_getElem h]
  have e : (ts.drop (k + 1)).isEmpty = (k + 1 == ts.length) := by
    rw [Bool.eq_iff_iff]; simp; omega
  rw [e]

theorem joinTo_L (ts : List Tok) : ∀ k, k ≤ ts.length → joinTo ts k ++ joinL (ts.drop k) = joinL ts
  | 0, _ => by simp [joinTo]
  | k + 1, h => by
    rw [joinTo, List.append_assoc, ← joinL_drop ts k (by omega)]
    exact joinTo_L ts k (by omega)

theorem joinTo_all (ts : List Tok) : joinTo ts ts.length = joinL ts := by
  have := joinTo_L ts ts.length (Nat.le_refl _)
  simpa [joinL] using this

theorem joinTo_le (ts : List Tok) (k : Nat) (h : k ≤ ts.length) : (joinTo ts k).length ≤ (joinL ts).length := by
  rw [← joinTo_L ts k h]; simp
end Go.Proofs.Ytpolmnemknehaaa
