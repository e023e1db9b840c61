/- Where the tokens of a text stand: on lists of bytes. -/
import Derived.Test.YtpolmnemknehaaaLexS
namespace Go.Proofs.Ytpolmnemknehaaa

def want (t : Tok) : List UInt8 := if t.k = 1 then [34] ++ t.t ++ [34] else t.t

theorem take_hit (cs : List UInt8) (R : Nat) (b : UInt8) (t : List UInt8) (h : cs.drop R = b :: t) : cs.take (R + 1) = cs.take R ++ [b] := by
  have hR : R < cs.length := by
    rcases Nat.lt_or_ge R cs.length with h1 | h1
    · exact h1
    · rw [List.drop_of_length_le h1] at h; cases h
  rw [List.take_succ_eq_append_getElem hR]
  rw [List.drop_eq_getElem_cons hR] at h
  cases h; rfl

theorem step_want {free : Bool} {c : UInt8} {cs : List UInt8} {k : Int} {off len n : Nat} {fr : Bool} (h : step free (c :: cs) = .tok k off len n fr) (l' c' : Int) :
    want ⟨k, ((c :: cs).drop off).take len, l', c'⟩ = (c :: cs).take n := by
  simp only [step] at h
  split at h
  · cases h
  · split at h
    · cases h
    · split at h
      · cases h; simp [want]
      · split at h
        · rename_i h34
          unfold textStep at h
          split at h
          · cases h
          · rename_i b t hd
            split at h
            · cases h
            · split at h
              · cases h
              · rename_i hb
                split at h
                · cases h
                · cases h
                  have hb34 : b = 34 := by simpa using hb
                  have hc34 : c = 34 := by simp at h34; exact h34.2
                  subst hb34; subst hc34
                  unfold want
                  rw [if_pos rfl]
                  simp only [List.drop_succ_cons, List.drop_zero]
                  have e2 : (34 :: cs).take ((cs.takeWhile pPlain).length + 2) = 34 :: cs.take ((cs.takeWhile pPlain).length + 1) := rfl
                  rw [e2]
                  have e3 := take_hit cs _ 34 t hd
                  rw [e3]; simp
        · split at h
          · split at h
            · cases h
            · cases h; simp [want]
          · cases h

/-- each token's text stands at its place, and the places rise -/
def Placed (L : List UInt8) : Nat → List Tok → Prop
  | _, [] => True
  | k, t :: ts => ∃ o, k ≤ o ∧ (t.l, t.c) = advs (1, 1) (L.take o) ∧ (L.drop o).take (want t).length = want t ∧ o + (want t).length ≤ L.length ∧ Placed L (o + (want t).length) ts

theorem Placed.weaken {L : List UInt8} {k k' : Nat} : ∀ {ts : List Tok}, Placed L k ts → k' ≤ k → Placed L k' ts
  | [], _, _ => trivial
  | _ :: _, ⟨o, h1, h⟩, hk => ⟨o, Nat.le_trans hk h1, h⟩

theorem advs_app (p : Int × Int) (a b : List UInt8) : advs p (a ++ b) = advs (advs p a) b := by simp [advs]

theorem scan_placed : ∀ (k : Nat) (free : Bool) (p : Int × Int) (l pre : List UInt8) (ts : List Tok), scan k free p l = .ok ts → p = advs (1, 1) pre → Placed (pre ++ l) pre.length ts
  | 0, _, _, _, _, _, h, _ => by simp [scan] at h
  | k + 1, _, _, [], _, ts, h, _ => by simp [scan] at h; subst h; trivial
  | k + 1, free, p, c :: cs, pre, ts, h, hp => by
    simp only [scan] at h
    cases hs : step free (c :: cs) with
    | bad e => rw [hs] at h; cases h
    | skip n =>
      rw [hs] at h
      have hn := step_skip hs
      have := scan_placed k _ _ _ (pre ++ (c :: cs).take n) _ h (by rw [hp, advs_app])
      rw [List.append_assoc, List.take_append_drop] at this
      exact this.weaken (by simp)
    | tok kd off len n fr =>
      rw [hs] at h
      simp only at h
      have hn := step_tok hs
      cases h2 : scan k fr (advs p ((c :: cs).take n)) ((c :: cs).drop n) with
      | error e => rw [h2] at h; cases h
      | ok us =>
        rw [h2] at h
        simp only [Except.map, Except.ok.injEq] at h
        subst h
        have := scan_placed k _ _ _ (pre ++ (c :: cs).take n) _ h2 (by rw [hp, advs_app])
        rw [List.append_assoc, List.take_append_drop] at this
        have hw := step_want hs p.1 p.2
        have hwl : ((c :: cs).take n).length = n := by simp; omega
        refine ⟨pre.length, Nat.le_refl _, ?_, ?_, ?_, ?_⟩
        · show (p.1, p.2) = _
          rw [List.take_left, ← hp]
        · rw [hw, hwl, List.drop_left]
        · rw [hw, hwl]; simp; omega
        · rw [hw]; simpa using this

/-- places rise -/
def PLt (p q : Int × Int) : Prop := p.1 < q.1 ∨ p.1 = q.1 ∧ p.2 < q.2
theorem PLt.trans {p q r : Int × Int} (h : PLt p q) (k : PLt q r) : PLt p r := by unfold PLt at *; omega
theorem adv_lt (p : Int × Int) (b : UInt8) : PLt p (adv p b) := by unfold PLt adv; split <;> simp <;> omega
theorem advs_lt (L : List UInt8) (a : Nat) : ∀ b, a < b → b ≤ L.length → PLt (advs (1, 1) (L.take a)) (advs (1, 1) (L.take b))
  | 0, h, _ => by omega
  | b + 1, h, hb => by
    have e : L.take (b + 1) = L.take b ++ [L[b]] := by rw [List.take_succ_eq_append_getElem (by omega)]
    rw [e, advs_app]
    have h1 : PLt (advs (1, 1) (L.take b)) (advs (advs (1, 1) (L.take b)) [L[b]]) := adv_lt _ _
    by_cases hab : a = b
    · subst hab; exact h1
    · exact (advs_lt L a b (by omega) (by omega)).trans h1
theorem PLt.ne {p q : Int × Int} (h : PLt p q) : ¬ (p.1 = q.1 ∧ p.2 = q.2) := by unfold PLt at h; omega
end Go.Proofs.Ytpolmnemknehaaa
