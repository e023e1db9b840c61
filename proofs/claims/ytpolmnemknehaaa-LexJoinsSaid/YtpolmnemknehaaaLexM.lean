/- The walks of Place (the program's and the document's) and End: the place of a byte is what stands ahead of it tells. -/
import Derived.Test.YtpolmnemknehaaaLexI
import Derived.Test.YtpolmnemknehaaaShelf
set_option linter.unusedVariables false
set_option linter.unusedSimpArgs false
namespace Go.Proofs.Ytpolmnemknehaaa
open Go.RowKit

def clampN (at_ : Int) (n : Nat) : Nat := if at_ < 0 then 0 else min at_.toNat n
def placeP (s : ByteArray) (at_ : Int) : Int × Int := advs (1, 1) (s.data.toList.take (clampN at_ s.size))

theorem size_list' (l : List UInt8) : (⟨l.toArray⟩ : ByteArray).size = l.length := by simp [ByteArray.size]
theorem clampN_max (a : Int) (n : Nat) : (max 0 (min a (n : Int))).toNat = clampN a n := by unfold clampN; split <;> omega
theorem clampN_le (a : Int) (n : Nat) : clampN a n ≤ n := by unfold clampN; split <;> omega

theorem advs_fst (l : List UInt8) : ∀ p : Int × Int, (advs p l).1 = p.1 + l.count 10 := by
  induction l with
  | nil => intro p; simp [advs]
  | cons b l ih =>
    intro p
    have := ih (adv p b)
    simp only [advs, List.foldl_cons] at this ⊢
    rw [this]
    unfold adv
    by_cases h : b = 10
    · subst h; simp; omega
    · have h2 : ¬ b.toNat = 10 := fun e => h (UInt8.toNat_inj.1 e)
      rw [if_neg h2, List.count_cons_of_ne h]

/-- how many bytes stand behind the last line's end -/
def tailLen : List UInt8 → Int := fun l => (advs (1, 1) l).2
theorem tail_snoc (l : List UInt8) (b : UInt8) : (advs (1, 1) (l ++ [b])).2 = if b.toNat = 10 then 1 else (advs (1, 1) l).2 + 1 := by
  rw [advs_snoc]; unfold adv; split <;> rfl

theorem lastIdx_tail (s : ByteArray) : ∀ n, n ≤ s.size → (advs (1, 1) (s.data.toList.take n)).2 = (n : Int) - Lib.lastIdx s 10 n := by
  intro n
  induction n with
  | zero => intro _; simp [advs, Lib.lastIdx]
  | succ n ih =>
    intro h
    have e := take_drop_succ s 0 n (by omega)
    simp only [List.drop_zero, Nat.zero_add] at e
    have e2 : (s.data[n]!) = s[n] := by rw [getElem!_pos s.data n (show n < s.size by omega)]; rfl
    rw [e, tail_snoc, Lib.lastIdx, e2]
    by_cases h10 : s[n].toNat = 10
    · rw [if_pos h10, if_pos (by omega)]; omega
    · rw [if_neg h10, if_neg (by omega), ih (by omega)]; omega

theorem extract_pre (s : ByteArray) (m : Nat) (h : m ≤ s.size) : (s.extract 0 m).data.toList = s.data.toList.take m ∧ (s.extract 0 m).size = m := by
  have e := extract_list s 0 m
  rw [List.drop_zero, Nat.sub_zero] at e
  rw [e]
  refine ⟨by simp, ?_⟩
  rw [size_list']; simp; omega

theorem placeP_fn (s : ByteArray) (a : Int) : placeP s a = ((1 : Int) + ((Lib.countByte (s.extract 0 (clampN a s.size)).data.toList 10 : Nat) : Int), ((s.extract 0 (clampN a s.size)).size : Int) - Lib.lastIndexByte (s.extract 0 (clampN a s.size)) 10) := by
  have hm := clampN_le a s.size
  obtain ⟨e1, e2⟩ := extract_pre s _ hm
  have h2 := lastIdx_tail (s.extract 0 (clampN a s.size)) (s.extract 0 (clampN a s.size)).size (Nat.le_refl _)
  rw [List.take_of_length_le (by simp), e1] at h2
  have h1 := advs_fst (s.data.toList.take (clampN a s.size)) (1, 1)
  apply Prod.ext
  · show (advs _ _).1 = _
    rw [h1, e1]; rfl
  · show (advs _ _).2 = _
    rw [h2]; rfl

set_option maxHeartbeats 2000000 in
set_option maxRecDepth 100000 in
theorem refPlace_any (s : ByteArray) (a : Int) (w : World) (hs : s.size ≤ 140737488351232) :
    Calls Try.prog 13 #[.string s, .int .i64 a] w fun e w' => e = .returned (.agg #[.int .i64 (placeP s a).1, .int .i64 (placeP s a).2]) ∧ Below w.heap.size w w' := by
  go_enter Try.func13, Try.ntmps13
  go_wp2_with fail
  obtain ⟨W, hW⟩ : ∃ W, W = (w.alloc (Obj.cells #[Value.int IntKind.i64 0, Value.int IntKind.i64 0] 25)).alloc (Obj.cells #[Value.int IntKind.i64 1, Value.int IntKind.i64 1] 25) := ⟨_, rfl⟩
  rw [← hW]
  have HW := mkHid hW
  clear hW
  go_loopg [6] (clampN a s.size) (fun kq v6 wr => ∃ k : Int, v6 = .int .i64 k ∧ 0 ≤ k ∧ Hid (k + kq = clampN a s.size) ∧
    Hid (wr.heap[w.heap.size + 1]? = some (.cells #[.int .i64 (advs (1, 1) (s.data.toList.take k.toNat)).1, .int .i64 (advs (1, 1) (s.data.toList.take k.toNat)).2] 25 (0, 0))) ∧
    Hid (wr.heap[w.heap.size]? = some (.cells #[.int .i64 0, .int .i64 0] 25 (0, 0))) ∧ Hid (Below w.heap.size w wr))
  case atStart =>
    refine ⟨0, rfl, by omega, by unfold Hid; omega, ?_, ?_, ?_⟩
    · rw [HW.out]; unfold Hid; simpa [advs] using heap_alloc_new (w.alloc (Obj.cells #[Value.int IntKind.i64 0, Value.int IntKind.i64 0] 25)) (Obj.cells #[Value.int IntKind.i64 1, Value.int IntKind.i64 1] 25)
    · rw [HW.out]; unfold Hid; rw [heap_alloc_old _ _ (by simp)]; exact heap_alloc_new w _
    · rw [HW.out]; exact ((Below.refl _ _).alloc (Nat.le_refl _) _).alloc (by simp) _
  case round =>
    obtain ⟨k, rfl, k0, hk, hP, hR, hB⟩ := hrel
    have hk1 := hk.out
    have hcl := clampN_le a s.size
    obtain ⟨L, C, hLC⟩ : ∃ L C, advs (1, 1) (s.data.toList.take k.toNat) = (L, C) := ⟨_, _, rfl⟩
    have hbd := advs_bound (s.data.toList.take k.toNat) (1, 1) (by decide) (by decide)
    have hlen : (s.data.toList.take k.toNat).length ≤ k.toNat := List.length_take_le _ _
    rw [hLC] at hbd hP
    simp only at hbd
    have b1 := hbd.1
    have b2 := hbd.2.1
    have b3 : L ≤ 281474976710656 := by omega
    have b4 : C ≤ 281474976710656 := by omega
    clear hbd hlen
    have HLC := mkHid hLC
    clear hLC
    have c0 : wr.cell? ⟨w.heap.size + 1, 0, none⟩ = some (.int .i64 L) := by simp [World.cell?, hP.out]
    have c1 : wr.cell? ⟨w.heap.size + 1, 1, none⟩ = some (.int .i64 C) := by simp [World.cell?, hP.out]
    have f0 : wr.frozen? ⟨w.heap.size + 1, 0, none⟩ = false := by simp [World.frozen?, hP.out]
    have f1 : wr.frozen? ⟨w.heap.size + 1, 1, none⟩ = false := by simp [World.frozen?, hP.out]
    by_cases hkn : k < clampN a s.size
    · have q1 : decide (k < (s.size : Int)) = true := decide_eq_true (by omega)
      have q2 : decide (k < a) = true := decide_eq_true (by unfold clampN at hkn; split at hkn <;> omega)
      have hx := bt_at s k
      have hbn := bt_nat s k.toNat (by omega)
      rw [show ((k.toNat : Nat) : Int) = k from by omega] at hbn
      have hks : k < (s.size : Int) := by omega
      have hts := take_drop_succ s 0 k.toNat (by omega)
      simp only [List.drop_zero, Nat.zero_add] at hts
      have HST : Hid (advs (1, 1) (s.data.toList.take (k + 1).toNat) = adv (L, C) s[k.toNat]) := by
        unfold Hid; rw [show (k + 1).toNat = k.toNat + 1 from by omega, hts, advs_snoc, HLC.out]
      clear hts
      by_cases hb : bt s k = 10
      · have q3 : (bt s k == 10) = true := by simp [hb]
        have H10 := mkHid (hbn.symm.trans hb)
        clear hbn hb
        go_wp2_with fail
        go_roundg (clampN a s.size - (k + 1).toNat)
        case measure => have := hk.out; omega
        case rel =>
          have hpos := H10.out
          refine ⟨k + 1, rfl, by omega, by have := hk.out; unfold Hid; omega, ?_, ?_, ?_⟩
          · rw [HST.out, adv, if_pos (by omega)]; unfold Hid; simp [World.setCell, Array.getElem?_modify, hP.out]
          · unfold Hid; simp [World.setCell, Array.getElem?_modify, hR.out]
          · exact ((hB.out.setCell (by simp) _).setCell (by simp) _).setCell (by simp) _
      · have q3 : (bt s k == 10) = false := by simp [hb]
        have H10 : Hid (¬ s[k.toNat].toNat = 10) := by unfold Hid; omega
        clear hbn hb
        go_wp2_with fail
        go_roundg (clampN a s.size - (k + 1).toNat)
        case measure => have := hk.out; omega
        case rel =>
          have hpos := H10.out
          refine ⟨k + 1, rfl, by omega, by have := hk.out; unfold Hid; omega, ?_, ?_, ?_⟩
          · rw [HST.out, adv, if_neg H10.out]; unfold Hid; simp [World.setCell, Array.getElem?_modify, hP.out]
          · unfold Hid; simp [World.setCell, Array.getElem?_modify, hR.out]
          · exact hB.out.setCell (by simp) _
    · have c2 : wr.cell? ⟨w.heap.size, 0, none⟩ = some (.int .i64 0) := by simp [World.cell?, hR.out]
      have c3 : wr.cell? ⟨w.heap.size, 1, none⟩ = some (.int .i64 0) := by simp [World.cell?, hR.out]
      have f2 : wr.frozen? ⟨w.heap.size, 0, none⟩ = false := by simp [World.frozen?, hR.out]
      have f3 : wr.frozen? ⟨w.heap.size, 1, none⟩ = false := by simp [World.frozen?, hR.out]
      have hke : k.toNat = clampN a s.size := by omega
      have HPP : Hid (placeP s a = (L, C)) := by unfold Hid placeP; rw [← hke]; exact HLC.out
      obtain ⟨r0, r1⟩ := two_set hR.out (.int .i64 L) (.int .i64 C)
      by_cases hks : k < (s.size : Int)
      · have q1 : decide (k < (s.size : Int)) = true := decide_eq_true hks
        have q2 : decide (k < a) = false := decide_eq_false (by unfold clampN at hkn; split at hkn <;> omega)
        clear hke hcl hk1
        go_wp2_with fail
        refine bodyPost_ret (v := .agg #[.int .i64 L, .int .i64 C]) (by simp [results, Try.results13, go_sem, r0, r1]) rfl ⟨?_, ?_⟩
        · rw [HPP.out]
        · exact (hB.out.setCell (Nat.le_refl _) _).setCell (Nat.le_refl _) _
      · have q1 : decide (k < (s.size : Int)) = false := decide_eq_false hks
        clear hke hcl hk1
        go_wp2_with fail
        refine bodyPost_ret (v := .agg #[.int .i64 L, .int .i64 C]) (by simp [results, Try.results13, go_sem, r0, r1]) rfl ⟨?_, ?_⟩
        · rw [HPP.out]
        · exact (hB.out.setCell (Nat.le_refl _) _).setCell (Nat.le_refl _) _

set_option maxHeartbeats 2000000 in
set_option maxRecDepth 100000 in
theorem place_any (s : ByteArray) (a : Int) (w : World) (hs : s.size ≤ 140737488351232) :
    Calls Try.prog 12 #[.string s, .int .i64 a] w fun e w' => e = .returned (.agg #[.int .i64 (placeP s a).1, .int .i64 (placeP s a).2]) ∧ Below w.heap.size w w' := by
  go_enter Try.func12, Try.ntmps12
  go_wp2_with fail
  rw [clampN_max]
  have hcl := clampN_le a s.size
  obtain ⟨x1, x2⟩ := extract_pre s _ hcl
  have hpl := placeP_fn s a
  obtain ⟨s', hs'⟩ : ∃ s', s' = s.extract 0 (clampN a s.size) := ⟨_, rfl⟩
  rw [← hs'] at x2 hpl ⊢
  have hsz : s'.size ≤ 140737488351232 := by omega
  have hcnt : Lib.countByte s'.data.toList 10 ≤ s'.size := by unfold Lib.countByte; have := List.count_le_length (a := (10 : UInt8)) (l := s'.data.toList); simpa using this
  have HPL := mkHid hpl
  clear hs' x1 x2 hpl hcl
  refine (Try.strings_Count_one s' 10 _).mono ?_
  rintro e w' ⟨rfl, rfl⟩
  obtain ⟨cnt, hc⟩ : ∃ c, c = Lib.countByte s'.data.toList 10 := ⟨_, rfl⟩
  have HPL2 : Hid (placeP s a = ((1 : Int) + (cnt : Int), (s'.size : Int) - Lib.lastIndexByte s' 10)) := by rw [hc]; exact HPL.out
  rw [← hc] at hcnt ⊢
  clear hc
  go_wp2_with fail
  refine (Try.strings_LastIndexByte s' 10 (by omega) _).mono ?_
  rintro e w' ⟨rfl, rfl⟩
  obtain ⟨li, hl⟩ : ∃ c, c = Lib.lastIndexByte s' 10 := ⟨_, rfl⟩
  have hl1 : -1 ≤ li ∧ li < s'.size := by
    rw [hl]
    rcases Lib.lastIndexByte_spec s' 10 with ⟨h, _⟩ | ⟨i, h1, h2, _⟩ <;> omega
  have HPL3 : Hid (placeP s a = ((1 : Int) + (cnt : Int), (s'.size : Int) - li)) := by rw [hl]; exact HPL2.out
  rw [← hl]
  clear hl HPL HPL2
  obtain ⟨l1, l2⟩ := hl1
  go_wp2_with fail
  refine bodyPost_ret (v := .agg #[.int .i64 (1 + cnt), .int .i64 ((s'.size : Int) - li)]) (by simp [results, Try.results12, go_sem]) rfl ⟨?_, ?_⟩
  · rw [HPL3.out]
  · exact (Below.refl _ _).alloc (Nat.le_refl _) _

set_option maxHeartbeats 2000000 in
set_option maxRecDepth 100000 in
theorem end_any (s : ByteArray) (w : World) (hs : s.size ≤ 140737488351232) :
    Calls Try.prog 14 #[.string s] w fun e w' => e = .returned (.agg #[.int .i64 (placeP s s.size).1, .int .i64 (placeP s s.size).2]) ∧ Below w.heap.size w w' := by
  go_enter Try.func14, Try.ntmps14
  go_wp2_with fail
  refine (place_any s _ _ hs).mono ?_
  rintro e w' ⟨rfl, hB⟩
  have hR : w'.heap[w.heap.size]? = some (.cells #[.int .i64 0, .int .i64 0] 25 (0, 0)) := by
    rw [hB.block _ (by simp)]; exact heap_alloc_new w _
  have HB := mkHid hB
  have HR := mkHid hR
  have c2 : w'.cell? ⟨w.heap.size, 0, none⟩ = some (.int .i64 0) := by simp [World.cell?, hR]
  have c3 : w'.cell? ⟨w.heap.size, 1, none⟩ = some (.int .i64 0) := by simp [World.cell?, hR]
  have f2 : w'.frozen? ⟨w.heap.size, 0, none⟩ = false := by simp [World.frozen?, hR]
  have f3 : w'.frozen? ⟨w.heap.size, 1, none⟩ = false := by simp [World.frozen?, hR]
  obtain ⟨P, hP⟩ : ∃ P, P = placeP s s.size := ⟨_, rfl⟩
  rw [← hP]
  have HP := mkHid hP
  obtain ⟨r0, r1⟩ := two_set hR (.int .i64 P.1) (.int .i64 P.2)
  clear hB hR hP
  go_wp2_with fail
  refine bodyPost_ret (v := .agg #[.int .i64 P.1, .int .i64 P.2]) (by simp [results, Try.results14, go_sem, r0, r1]) rfl ⟨?_, ?_⟩
  · rw [HP.out]
  · exact ((((Below.refl _ _).alloc (Nat.le_refl _) _).trans (HB.out.mono (by simp))).setCell (Nat.le_refl _) _).setCell (Nat.le_refl _) _
end Go.Proofs.Ytpolmnemknehaaa
