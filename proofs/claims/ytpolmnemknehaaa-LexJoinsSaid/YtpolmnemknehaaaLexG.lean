/- The walk of one as the plain step tells it: one contract for all cases. -/
import Derived.Test.YtpolmnemknehaaaLexF
set_option linter.unusedVariables false
set_option linter.unusedSimpArgs false
namespace Go.Proofs.Ytpolmnemknehaaa
open Go.RowKit

/-! the two ways to say it -/
theorem all_u8 {P : UInt8 → Prop} (h : ∀ i : Fin 256, P (UInt8.ofNat i.val)) (c : UInt8) : P c := by
  have := h ⟨c.toNat, c.toNat_lt⟩
  simpa using this
theorem bridge_blank (c : UInt8) : blankB (c.toNat : Int) = pBlank c := all_u8 (P := fun c => blankB (c.toNat : Int) = pBlank c) (by decide +kernel) c
theorem bridge_mark (c : UInt8) : markB (c.toNat : Int) = pMark c := all_u8 (P := fun c => markB (c.toNat : Int) = pMark c) (by decide +kernel) c
theorem bridge_letter (c : UInt8) : letterB (c.toNat : Int) = pLetter c := all_u8 (P := fun c => letterB (c.toNat : Int) = pLetter c) (by decide +kernel) c
theorem bridge_plain (c : UInt8) : plainB (c.toNat : Int) = pPlain c := all_u8 (P := fun c => plainB (c.toNat : Int) = pPlain c) (by decide +kernel) c
theorem bridge_nl (c : UInt8) : ((c.toNat : Int) != 10) = (c != 10) := all_u8 (P := fun c => ((c.toNat : Int) != 10) = (c != 10)) (by decide +kernel) c

theorem runLen_plain (s : ByteArray) (i : Nat) : runLen plainB s i = ((s.data.toList.drop i).takeWhile pPlain).length := by
  unfold runLen; congr 2; funext b; exact bridge_plain b
theorem runLen_letter (s : ByteArray) (i : Nat) : runLen letterB s i = ((s.data.toList.drop i).takeWhile pLetter).length := by
  unfold runLen; congr 2; funext b; exact bridge_letter b
theorem runLen_nl (s : ByteArray) (i : Nat) : runLen (fun c => c != 10) s i = ((s.data.toList.drop i).takeWhile (· != 10)).length := by
  unfold runLen; congr 2; funext b; exact bridge_nl b

/-- what one step does, as the plain step tells -/
def Stepped (B : Nat) (w w' : World) (g : Nat) (s : ByteArray) (a l c : Int) (m : Nat) (xs : List Value) (E : Int) : Step → Prop
  | .bad e => E = e ∧ Gone B w w' g
  | .skip n => E = 0 ∧ At B w' g s (a + n) (advs (l, c) ((s.data.toList.drop a.toNat).take n)).1 (advs (l, c) ((s.data.toList.drop a.toNat).take n)).2 m xs true ∧ Below B w w'
  | .tok k off len n fr => E = 0 ∧ At B w' g s (a + n) (advs (l, c) ((s.data.toList.drop a.toNat).take n)).1 (advs (l, c) ((s.data.toList.drop a.toNat).take n)).2 (m + 1)
      (xs ++ [.int .i64 k, .string ⟨(((s.data.toList.drop a.toNat).drop off).take len).toArray⟩, .int .i64 l, .int .i64 c]) fr ∧ Below B w w'

theorem extract_list (s : ByteArray) (i j : Nat) : s.extract i j = ⟨((s.data.toList.drop i).take (j - i)).toArray⟩ := by
  apply ByteArray.ext
  apply Array.ext_getElem?
  intro k
  simp only [ByteArray.data_extract, Array.getElem?_extract, List.getElem?_toArray, List.getElem?_take, List.getElem?_drop, Array.getElem?_toList]
  by_cases h : k < j - i
  · rw [if_pos h]
    by_cases h2 : k < min j s.data.size - i
    · rw [if_pos h2]
    · rw [if_neg h2]
      symm
      rw [Array.getElem?_eq_none_iff]
      omega
  · rw [if_neg h, if_neg (by omega)]

theorem below_un {B : Nat} {w w' : World} {k : Nat} (h : Below B (w.drewN k) w') : Below B w w' := ⟨h.os, h.tape, h.output, h.size, h.block⟩
theorem gone_un {B g : Nat} {w w' : World} {k : Nat} (h : Gone B (w.drewN k) w' g) : Gone B w w' g := by
  obtain ⟨s, a, l, c, v, f, hS, hB⟩ := h
  exact ⟨s, a, l, c, v, f, hS, below_un hB⟩

theorem one_any (B g : Nat) (s : ByteArray) (a l c : Int) (m : Nat) (xs : List Value) (f : Bool) (w : World) (hs : s.size ≤ 140737488351232)
    (h : At B w g s a l c m xs f) (ha : 0 ≤ a) (ha2 : a < s.size)
    (hm : m ≤ 1000000) (hl0 : 0 ≤ l) (hc0 : 0 ≤ c) (hl : l ≤ 140737488351232) (hc : c ≤ 140737488351232) :
    Calls Try.prog 15 #[.pointer (some ⟨g, 0, none⟩)] w fun e w' => ∃ E : Int, e = .returned (.int .i64 E) ∧ Stepped B w w' g s a l c m xs E (step f (s.data.toList.drop a.toNat)) := by
  have hd := drop_cons s a.toNat (by omega)
  obtain ⟨b, hb⟩ : ∃ b, b = s[a.toNat] := ⟨_, rfl⟩
  have hbt : bt s a = b.toNat := by have := bt_nat s a.toNat (by omega); rw [hb, ← this]; congr 1; omega
  rw [← hb] at hd
  rw [hd]
  have hext : ∀ n : Nat, s.extract a.toNat (a + n).toNat = ⟨((s.data.toList.drop a.toNat).take n).toArray⟩ := by
    intro n; rw [extract_list]; congr 3; omega
  simp only [step]
  by_cases h1 : pBlank b = true
  · rw [if_pos h1]
    refine (one_blank B g s a l c m xs f w hs h ha ha2 (by rw [hbt, bridge_blank]; exact h1) hl0 hc0 hl hc).mono fun e w' ⟨x, y⟩ => ⟨0, x, rfl, y⟩
  · rw [if_neg h1]
    have g1 : blankB (bt s a) = false := by rw [hbt, bridge_blank]; simpa using h1
    by_cases h2 : b = 35
    · rw [if_pos h2]
      refine (one_hash B g s a l c m xs f w hs h ha ha2 g1 (by rw [hbt, h2]; rfl) hl0 hc0 hl hc).mono fun e w' ⟨x, y⟩ => ⟨0, x, rfl, ?_⟩
      have e : hashLen s a = (((b :: s.data.toList.drop (a.toNat + 1)).takeWhile (· != 10)).length : Nat) := by
        unfold hashLen; rw [runLen_nl, ← hd]; simp
      rw [e] at y; exact y
    · rw [if_neg h2]
      have g2 : bt s a ≠ 35 := by rw [hbt]; intro h; apply h2; apply UInt8.toNat_inj.1; show b.toNat = 35; omega
      by_cases h3 : pMark b = true
      · rw [if_pos h3]
        refine (one_mark B g s a l c m xs f w hs h ha ha2 g1 g2 (by rw [hbt, bridge_mark]; exact h3) hm hl0 hc0 hl hc).mono fun e w' ⟨x, y⟩ => ⟨0, x, rfl, ?_⟩
        have := hext 1
        simp only [Int.natCast_one] at this
        rw [this] at y; exact y
      · rw [if_neg h3]
        have g3 : markB (bt s a) = false := by rw [hbt, bridge_mark]; simpa using h3
        cases f with
        | false =>
          simp only [Bool.false_and, Bool.false_eq_true, if_false]
          refine (one_stuck1 B g s a l c m xs false w 4 (Gone B w · g) h ha ha2 g1 g2 g3 rfl rfl ?_).mono fun e w' ⟨x, y⟩ => ⟨4, x, rfl, y⟩
          intro k
          obtain ⟨v, hS, _⟩ := h
          exact ⟨s, a, l, c, v, false, hS.drewN k, ⟨rfl, rfl, rfl, Nat.le_refl _, fun _ _ => rfl⟩⟩
        | true =>
          simp only [Bool.true_and]
          by_cases h4 : b = 34
          · rw [if_pos (by simp [h4])]
            have g4 : bt s a = 34 := by rw [hbt, h4]; rfl
            have htl : textLen s a = 1 + (((s.data.toList.drop (a.toNat + 1)).takeWhile pPlain).length : Nat) := by
              unfold textLen; rw [runLen_plain, show (a + 1).toNat = a.toNat + 1 from by omega]
            obtain ⟨r, hr⟩ : ∃ r : Nat, r = ((s.data.toList.drop (a.toNat + 1)).takeWhile pPlain).length := ⟨_, rfl⟩
            rw [← hr] at htl
            have hbd := textLen_bd s a ha (by omega)
            have hdr : (s.data.toList.drop (a.toNat + 1)).drop r = s.data.toList.drop (a.toNat + 1 + r) := by rw [List.drop_drop]
            unfold textStep
            rw [← hr, hdr]
            by_cases h5 : a.toNat + 1 + r < s.size
            · rw [drop_cons s _ h5]
              simp only []
              obtain ⟨q, hq⟩ : ∃ q, q = s[a.toNat + 1 + r] := ⟨_, rfl⟩
              have hbq : bt s (a + textLen s a) = q.toNat := by
                have := bt_nat s (a.toNat + 1 + r) h5; rw [hq, ← this]; congr 1; omega
              rw [← hq]
              by_cases h6 : q = 10
              · rw [if_pos h6]
                refine (one_text B g s a l c m xs true w 3 (Gone B w · g) h ha ha2 g1 g2 g3 rfl g4 ?_).mono fun e w' ⟨x, y⟩ => ⟨3, x, rfl, y⟩
                intro k
                exact (text_nl B g s a l c m xs true (w.drewN k) hs (h.drewN k) ha (by omega) (by omega) (by rw [hbq, h6]; rfl)).mono fun _ _ ⟨x, y⟩ => ⟨x, gone_un y⟩
              · rw [if_neg h6]
                have g6 : bt s (a + textLen s a) ≠ 10 := by rw [hbq]; intro h; apply h6; apply UInt8.toNat_inj.1; show q.toNat = 10; omega
                by_cases h7 : q = 34
                · rw [if_neg (by simp [h7])]
                  have g7 : bt s (a + textLen s a) = 34 := by rw [hbq, h7]; rfl
                  by_cases h8 : 64 < r
                  · rw [if_pos h8]
                    refine (one_text B g s a l c m xs true w 2 (Gone B w · g) h ha ha2 g1 g2 g3 rfl g4 ?_).mono fun e w' ⟨x, y⟩ => ⟨2, x, rfl, y⟩
                    intro k
                    exact (text_long B g s a l c m xs true (w.drewN k) hs (h.drewN k) ha (by omega) (by omega) g6 g7 (by omega) hm hl0 hc0 hl hc).mono fun _ _ ⟨x, y⟩ => ⟨x, gone_un y⟩
                  · rw [if_neg h8]
                    refine (one_text B g s a l c m xs true w 0 (fun w' => _ ∧ Below B w w') h ha ha2 g1 g2 g3 rfl g4 ?_).mono fun e w' ⟨x, y⟩ => ⟨0, x, rfl, y⟩
                    intro k
                    have := text_ok B g s a l c m xs true (w.drewN k) hs (h.drewN k) ha (by omega) (by omega) g6 g7 (by omega) hm hl0 hc0 hl hc
                    refine this.mono fun e w' ⟨x, y, z⟩ => ⟨x, ?_, below_un z⟩
                    rw [htl, extract_list] at y
                    have e1 : (1 + (r : Int) + 1).toNat = r + 2 := by omega
                    have e2 : (a + (1 + (r : Int))).toNat - (a + 1).toNat = r := by omega
                    have e3 : (a + 1).toNat = a.toNat + 1 := by omega
                    have e4 : a + (1 + (r : Int) + 1) = a + ((r + 2 : Nat) : Int) := by omega
                    rw [e1, e2, e3, e4] at y
                    rw [List.drop_drop]
                    exact y
                · rw [if_pos h7]
                  have g7 : bt s (a + textLen s a) ≠ 34 := by rw [hbq]; intro h; apply h7; apply UInt8.toNat_inj.1; show q.toNat = 34; omega
                  refine (one_text B g s a l c m xs true w 4 (Gone B w · g) h ha ha2 g1 g2 g3 rfl g4 ?_).mono fun e w' ⟨x, y⟩ => ⟨4, x, rfl, y⟩
                  intro k
                  exact (text_form B g s a l c m xs true (w.drewN k) hs (h.drewN k) ha (by omega) (by omega) g6 g7 hm hl0 hc0 hl hc).mono fun _ _ ⟨x, y⟩ => ⟨x, gone_un y⟩
            · rw [List.drop_of_length_le (by simp; omega)]
              simp only []
              refine (one_text B g s a l c m xs true w 3 (Gone B w · g) h ha ha2 g1 g2 g3 rfl g4 ?_).mono fun e w' ⟨x, y⟩ => ⟨3, x, rfl, y⟩
              intro k
              exact (text_end B g s a l c m xs true (w.drewN k) hs (h.drewN k) ha (by omega) (by omega)).mono fun _ _ ⟨x, y⟩ => ⟨x, gone_un y⟩
          · rw [if_neg (by simpa using h4)]
            have g4 : bt s a ≠ 34 := by rw [hbt]; intro h; apply h4; apply UInt8.toNat_inj.1; show b.toNat = 34; omega
            by_cases h5 : pLetter b = true
            · rw [if_pos h5]
              have g5 : letterB (bt s a) = true := by rw [hbt, bridge_letter]; exact h5
              have hwl : wordLen s a = (((b :: s.data.toList.drop (a.toNat + 1)).takeWhile pLetter).length : Nat) := by
                unfold wordLen; rw [runLen_letter, ← hd]; simp
              obtain ⟨r, hr⟩ : ∃ r : Nat, r = ((b :: s.data.toList.drop (a.toNat + 1)).takeWhile pLetter).length := ⟨_, rfl⟩
              rw [← hr] at hwl ⊢
              by_cases h8 : 32 < r
              · rw [if_pos h8]
                refine (one_word B g s a l c m xs true w 2 (Gone B w · g) h ha ha2 g1 g2 g3 rfl g4 g5 ?_).mono fun e w' ⟨x, y⟩ => ⟨2, x, rfl, y⟩
                intro k
                exact (word_long B g s a l c m xs true (w.drewN k) hs (h.drewN k) ha (by omega) (by omega)).mono fun _ _ ⟨x, y⟩ => ⟨x, gone_un y⟩
              · rw [if_neg h8]
                refine (one_word B g s a l c m xs true w 0 (fun w' => _ ∧ Below B w w') h ha ha2 g1 g2 g3 rfl g4 g5 ?_).mono fun e w' ⟨x, y⟩ => ⟨0, x, rfl, y⟩
                intro k
                have := word_ok B g s a l c m xs true (w.drewN k) hs (h.drewN k) ha (by omega) (by omega) hm hl0 hc0 hl hc
                refine this.mono fun e w' ⟨x, y, z⟩ => ⟨x, ?_, below_un z⟩
                rw [hwl, hext, Int.toNat_natCast] at y
                exact y
            · rw [if_neg h5]
              have g5 : letterB (bt s a) = false := by rw [hbt, bridge_letter]; simpa using h5
              refine (one_stuck2 B g s a l c m xs true w 4 (Gone B w · g) h ha ha2 g1 g2 g3 rfl g4 g5 rfl ?_).mono fun e w' ⟨x, y⟩ => ⟨4, x, rfl, y⟩
              intro k
              obtain ⟨v, hS, _⟩ := h
              exact ⟨s, a, l, c, v, true, hS.drewN k, ⟨rfl, rfl, rfl, Nat.le_refl _, fun _ _ => rfl⟩⟩
end Go.Proofs.Ytpolmnemknehaaa
