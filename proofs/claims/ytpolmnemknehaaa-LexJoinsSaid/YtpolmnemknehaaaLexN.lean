/- The walk of the law LexPlaces: it returns true for every text and number. -/
import Derived.Test.YtpolmnemknehaaaLexM
import Derived.Deep.RegionHeld3
import Derived.Test.YtpolmnemknehaaaLexT
set_option linter.unusedVariables false
set_option linter.unusedSimpArgs false
namespace Go.Proofs.Ytpolmnemknehaaa
open Go.RowKit

set_option maxHeartbeats 2000000 in
set_option maxRecDepth 100000 in
theorem places_long (s : ByteArray) (a : Int) (w : World) (hs : s.size ≤ 140737488351232) (h : 2000 < s.size) :
    Calls Try.prog 6 #[.string s, .int .i64 a] w fun e w' => e = .returned (.bool true) ∧ Below w.heap.size w w' := by
  have h1 : decide ((2000 : Int) < (s.size : Int)) = true := decide_eq_true (by omega)
  go_enter Try.func6, Try.ntmps6
  go_wp2_with fail
  refine (lives_any _).mono ?_
  rintro e w' ⟨rfl, hB⟩
  go_wp2_with fail
  go_ret
  exact ⟨rfl, hB⟩

theorem app_list' (l m : List UInt8) : (⟨l.toArray⟩ : ByteArray) ++ ⟨m.toArray⟩ = ⟨(l ++ m).toArray⟩ := by
  apply ByteArray.ext; simp [ByteArray.data_append]
theorem ba_toList (l : List UInt8) : (⟨l.toArray⟩ : ByteArray).toList = l := by simp
theorem below_tr {a b c d : World} (h : Below a.heap.size a b) (k : Below d.heap.size d c) (e1 : b.heap = d.heap := by rfl) (e2 : b.tape = d.tape := by rfl) (e3 : b.output = d.output := by rfl) (e4 : b.os = d.os := by rfl) : Below a.heap.size a c := by
  have s := h.size
  refine h.trans ⟨k.os.trans e4.symm, k.tape.trans e2.symm, k.output.trans e3.symm, by rw [e1]; exact k.size, fun i hi => ?_⟩
  rw [e1]; exact k.block i (by rw [← e1]; omega)

theorem refPlace_eq (s : ByteArray) (a : Int) (X : Int × Int) (w : World) (hs : s.size ≤ 140737488351232) (hX : X = placeP s a) :
    Calls Try.prog 13 #[.string s, .int .i64 a] w fun e w' => e = .returned (.agg #[.int .i64 X.1, .int .i64 X.2]) ∧ Below w.heap.size w w' := by
  rw [hX]; exact refPlace_any s a w hs

set_option maxHeartbeats 1000000 in
set_option maxRecDepth 100000 in
theorem places_short (s : ByteArray) (a : Int) (w : World) (h : s.size ≤ 2000) :
    Calls Try.prog 6 #[.string s, .int .i64 a] w fun e w' => e = .returned (.bool true) ∧ Below w.heap.size w w' := by
  have h1 : decide ((2000 : Int) < (s.size : Int)) = false := decide_eq_false (by omega)
  go_enter Try.func6, Try.ntmps6
  go_wp2_with fail
  refine (place_any s a _ (by omega)).mono ?_
  rintro e w1 ⟨rfl, hB1⟩
  have HB1 := mkHid hB1
  clear hB1
  obtain ⟨P, hP⟩ : ∃ P, P = placeP s a := ⟨_, rfl⟩
  have HP := mkHid hP
  rw [← hP]
  clear hP
  go_wp2_with fail
  refine (refPlace_any s a _ (by omega)).mono ?_
  rintro e w2 ⟨rfl, hB2⟩
  have HB2 := mkHid hB2
  clear hB2
  rw [← HP.out]
  go_wp2_with fail
  refine (end_any s _ (by omega)).mono ?_
  rintro e w3 ⟨rfl, hB3⟩
  have HB3 := mkHid hB3
  clear hB3
  obtain ⟨Q, hQ⟩ : ∃ P, P = placeP s s.size := ⟨_, rfl⟩
  have HQ := mkHid hQ
  rw [← hQ]
  clear hQ
  go_wp2_with fail
  refine (refPlace_any s s.size _ (by omega)).mono ?_
  rintro e w4 ⟨rfl, hB4⟩
  have HB4 := mkHid hB4
  clear hB4
  rw [← HQ.out]
  go_wp2_with fail
  refine (scan_gen s _ (by omega)).mono ?_
  rintro e w5 ⟨hB5, v1, p1, q1, E1, rfl, hR1⟩
  have HB05 : Hid (Below w.heap.size w w5) := by
    have s1 := HB1.out.size
    have s2 := HB2.out.size
    have s3 := HB3.out.size
    have s4 := HB4.out.size
    exact (((HB1.out.trans (HB2.out.mono (by omega))).trans (HB3.out.mono (by omega))).trans (HB4.out.mono (by omega))).trans (hB5.mono (by omega))
  clear HB1 HB2 HB3 HB4 hB5
  obtain ⟨hE, ts, hts, ho1⟩ | ⟨hE, hv, hts⟩ := hR1.out
  rotate_left
  · subst hv
    have k1 : (E1 != 0) = true := by simp [hE]
    clear hE
    go_wp2_with fail
    refine (lives_any _).mono ?_
    rintro e w' ⟨rfl, hB⟩
    have HB := mkHid hB
    clear hB
    go_wp2_with fail
    go_ret
    exact ⟨rfl, (HB05.out.alloc HB05.out.size _).trans (HB.out.mono (by have := HB05.out.size; simp; omega))⟩
  subst hE
  obtain ⟨A1, m1, rfl, hm1, hc1⟩ := own_shape ho1
  have hlt : ts.length ≤ 4000 := by have := scan_count _ _ _ _ _ hts; simp at this; omega
  have HPL := mkHid (scan_placed _ _ _ _ [] _ hts rfl)
  have HWF := mkHid (scan_wf _ _ _ _ _ hts)
  have HC1 := mkHid hc1
  obtain ⟨n1, hn1⟩ : ∃ n, n = ts.length := ⟨_, rfl⟩
  clear hts hc1 ho1 hR1
  rw [← hn1] at hm1 HC1 hlt ⊢
  have HN1 := mkHid hn1
  clear hn1
  go_wp2_with fail
  obtain ⟨W, hW⟩ : ∃ W, W = w5.alloc (Obj.cells #[Value.int IntKind.i64 p1, Value.int IntKind.i64 q1] 25) := ⟨_, rfl⟩
  rw [← hW]
  have HW := mkHid hW
  clear hW
  go_loopg [8, 9] n1 (fun kq v8 v9 wr => ∃ k i : Int, v8 = .int .i64 k ∧ v9 = .int .i64 i ∧ 0 ≤ i ∧ 0 ≤ k ∧ k ≤ s.size ∧ Hid (i + kq = n1) ∧ Hid (Placed s.data.toList k.toNat (ts.drop i.toNat)) ∧ Hid (Below W.heap.size W wr))
  case atStart => exact ⟨0, 0, rfl, rfl, by omega, by omega, by omega, by unfold Hid; omega, by unfold Hid; simpa using HPL.out, Below.refl _ _⟩
  case round =>
    obtain ⟨k, i, rfl, rfl, i0, k0, ks, hk, hP, hBr⟩ := hrel
    obtain ⟨gk0, hgk⟩ : ∃ g : Nat, g = gk := ⟨_, rfl⟩
    subst hgk
    obtain ⟨wo, hwo⟩ : ∃ wo : World, wo = wr := ⟨_, rfl⟩
    subst hwo
    by_cases hin : i < n1
    · have qi : decide (i < (n1 : Int)) = true := decide_eq_true hin
      obtain ⟨g1, rfl, _, hg1, hcell1⟩ := HC1.out (by omega)
      obtain ⟨T, hT⟩ : ∃ T, ts[i.toNat]? = some T := ⟨_, List.getElem?_eq_getElem (h := by have := HN1.out; omega)⟩
      have hPl := hP.out
      obtain ⟨hlt', hTe⟩ := List.getElem?_eq_some_iff.1 hT
      rw [List.drop_eq_getElem_cons hlt', hTe] at hPl
      obtain ⟨o, ho1, ho2, ho3, ho4, ho5⟩ := hPl
      obtain ⟨t0, t1, t2, t3⟩ := toks_get _ _ _ hT
      have s5 : W.heap.size = w5.heap.size + 1 := by rw [HW.out]; simp
      have sW := hBr.out.size
      have hb1 : wo.heap[g1]? = w5.heap[g1]? := by rw [hBr.out.block g1 (by omega), HW.out, heap_alloc_old _ _ hg1]
      have d0 := (World.cell?_of_block (a := ⟨g1, i.toNat * 4, none⟩) hb1).trans (hcell1 _ _ t0)
      have d1 := (World.cell?_of_block (a := ⟨g1, i.toNat * 4 + 1, none⟩) hb1).trans (hcell1 _ _ t1)
      have d2 := (World.cell?_of_block (a := ⟨g1, i.toNat * 4 + 2, none⟩) hb1).trans (hcell1 _ _ t2)
      have d3 := (World.cell?_of_block (a := ⟨g1, i.toNat * 4 + 3, none⟩) hb1).trans (hcell1 _ _ t3)
      have hgw : g1 < wo.heap.size := by omega
      have HO1 := mkHid ho1
      have HO2 := mkHid ho2
      have HO3 := mkHid ho3
      have HO4 := mkHid ho4
      have HO5 := mkHid ho5
      have HT := mkHid hT
      have hwl : 0 < (want T).length := by
        have hwf := HWF.out T (List.mem_of_getElem? hT)
        unfold want
        rcases hwf with ⟨h1, c, h2, _⟩ | ⟨h1, _⟩ | ⟨h1, h2, _⟩
        · rw [if_neg (by omega), h2]; simp
        · rw [if_pos h1]; simp
        · rw [if_neg (by omega)]; exact List.length_pos_iff.2 h2
      have hos : o < s.size := by have h4 := ho4; simp at h4; omega
      have HWL := mkHid hwl
      clear t0 t1 t2 t3 hcell1 hb1 ho1 ho2 ho3 ho4 ho5 hT hTe hwl s5 sW hlt'
      go_wp2_with fail
      go_loopg [8] (o - k.toNat) (fun kq v8 wi => ∃ k : Int, v8 = .int .i64 k ∧ 0 ≤ k ∧ Hid (k + kq = o) ∧ Hid (Below wo.heap.size wo wi))
      case atStart => exact ⟨k, rfl, k0, by unfold Hid; have := HO1.out; omega, Below.refl _ _⟩
      case round =>
        obtain ⟨k2, rfl, k20, hk2, hBi⟩ := hrel
        have hk2' := hk2.out
        have g0 := (hBi.out.cell (p := ⟨g1, i.toNat * 4, none⟩) hgw).trans d0
        have g1' := (hBi.out.cell (p := ⟨g1, i.toNat * 4 + 1, none⟩) hgw).trans d1
        have g2 := (hBi.out.cell (p := ⟨g1, i.toNat * 4 + 2, none⟩) hgw).trans d2
        have g3 := (hBi.out.cell (p := ⟨g1, i.toNat * 4 + 3, none⟩) hgw).trans d3
        have hgi : g1 < wr.heap.size := by have := hBi.out.size; omega
        have q1 : decide (k2 < (s.size : Int)) = true := decide_eq_true (by omega)
        obtain ⟨X, hX⟩ : ∃ X, X = placeP s k2 := ⟨_, rfl⟩
        have hXp : placeP s k2 = advs (1, 1) (s.data.toList.take k2.toNat) := by
          have hcl : clampN k2 s.size = k2.toNat := by (unfold clampN; rw [if_neg (by omega)]; omega)
          unfold placeP; rw [hcl]
        by_cases hko : k2 < o
        · have hne : ¬ (X.1 = T.l ∧ X.2 = T.c) := by
            have hl := advs_lt s.data.toList k2.toNat o (by omega) (by have := HO4.out; omega)
            rw [← hXp, ← hX, ← HO2.out] at hl
            exact hl.ne
          have HX := mkHid hX
          have hbs : k2 + 1 ≤ 2000 := by omega
          clear hX hXp hk2'
          by_cases hne1 : X.1 = T.l
          · have hn1 : (X.1 == T.l) = true := by simp [hne1]
            have hn2 : (X.2 == T.c) = false := by simp; exact fun h => hne ⟨hne1, h⟩
            clear hne hne1
            go_wp2_with fail
            go_region_held3 (fun w' => w'.cell? ⟨g1, i.toNat * 4 + 2, none⟩ = some (.int .i64 T.l) ∧ w'.cell? ⟨g1, i.toNat * 4 + 3, none⟩ = some (.int .i64 T.c)) (go_keep)
              (first | (go_at_call 13; refine (refPlace_eq s k2 X _ (by omega) HX.out).mono ?_; rintro e w' ⟨rfl, hB⟩; have HB := mkHid hB; have g2b := (hB.cell (p := ⟨g1, i.toNat * 4 + 2, none⟩) hgi).trans g2; have g3b := (hB.cell (p := ⟨g1, i.toNat * 4 + 3, none⟩) hgi).trans g3; clear hB))
            go_wp2_with fail
            go_roundg (gk - 1)
            case measure => have := hk2.out; omega
            case rel => exact ⟨k2 + 1, rfl, by omega, by have := hk2.out; unfold Hid; omega, below_tr hBi.out HB.out⟩
          · have hn1 : (X.1 == T.l) = false := by simp [hne1]
            clear hne hne1
            go_wp2_with fail
            go_region_held3 (fun w' => w'.cell? ⟨g1, i.toNat * 4 + 2, none⟩ = some (.int .i64 T.l) ∧ w'.cell? ⟨g1, i.toNat * 4 + 3, none⟩ = some (.int .i64 T.c)) (go_keep)
              (first | (go_at_call 13; refine (refPlace_eq s k2 X _ (by omega) HX.out).mono ?_; rintro e w' ⟨rfl, hB⟩; have HB := mkHid hB; have g2b := (hB.cell (p := ⟨g1, i.toNat * 4 + 2, none⟩) hgi).trans g2; have g3b := (hB.cell (p := ⟨g1, i.toNat * 4 + 3, none⟩) hgi).trans g3; clear hB))
            go_wp2_with fail
            go_roundg (gk - 1)
            case measure => have := hk2.out; omega
            case rel => exact ⟨k2 + 1, rfl, by omega, by have := hk2.out; unfold Hid; omega, below_tr hBi.out HB.out⟩
        · have hke : k2 = o := by have := hk2.out; omega
          have hXT : X = (T.l, T.c) := by rw [hX, hXp, hke, Int.toNat_natCast, ← HO2.out]
          subst hXT
          have HX := mkHid hX
          have HK := mkHid hke
          have hbs : k2 + 1 ≤ 2000 := by omega
          clear hX hXp hk2' hke
          go_wp2_with fail
          go_region_held3 (fun w' => w'.cell? ⟨g1, i.toNat * 4 + 2, none⟩ = some (.int .i64 T.l) ∧ w'.cell? ⟨g1, i.toNat * 4 + 3, none⟩ = some (.int .i64 T.c)) (go_keep)
            (first | (go_at_call 13; refine (refPlace_eq s k2 (T.l, T.c) _ (by omega) HX.out).mono ?_; rintro e w' ⟨rfl, hB⟩; have HB := mkHid hB; have g0b := (hB.cell (p := ⟨g1, i.toNat * 4, none⟩) hgi).trans g0; have g1b := (hB.cell (p := ⟨g1, i.toNat * 4 + 1, none⟩) hgi).trans g1'; have g2b := (hB.cell (p := ⟨g1, i.toNat * 4 + 2, none⟩) hgi).trans g2; have g3b := (hB.cell (p := ⟨g1, i.toNat * 4 + 3, none⟩) hgi).trans g3; clear hB))
          have hwb : (want T).length ≤ 2000 := by have h4 := HO4.out; simp at h4; omega
          have h4 : o + (want T).length ≤ s.size := by have := HO4.out; rwa [show s.data.toList.length = s.size from by simp] at this
          by_cases hk1 : T.k = 1
          · have q3 : (T.k == 1) = true := by simp [hk1]
            have hwe : want T = [34] ++ T.t ++ [34] := by unfold want; rw [if_pos hk1]
            have hwl : (want T).length = T.t.length + 2 := by rw [hwe]; simp
            have htl : T.t.length ≤ 2000 := by omega
            have HWE := mkHid hwe
            have hcmp : ((s.extract k2.toNat (k2 + (1 + (T.t.length : Int) + 1)).toNat).toList == ((⟨#[34]⟩ : ByteArray) ++ ⟨T.t.toArray⟩ ++ ⟨#[34]⟩).toList) = true := by
              rw [beq_iff_eq]; congr 1
              rw [extract_list, show (⟨#[34]⟩ : ByteArray) = ⟨[34].toArray⟩ from rfl, app_list', app_list']
              have h3 := HO3.out
              rw [hwe] at h3
              have := HK.out
              rw [show (k2 + (1 + (T.t.length : Int) + 1)).toNat - k2.toNat = ([34] ++ T.t ++ [34]).length from by simp; omega, show k2.toNat = o from by omega, h3]
            have hend : k2 + (1 + (T.t.length : Int) + 1) ≤ (s.size : Int) := by (have := HK.out); omega
            have hend0 : k2 ≤ k2 + (1 + (T.t.length : Int) + 1) := by omega
            have hend1 : 1 + (T.t.length : Int) + 1 ≤ (s.size : Int) - k2 := by omega
            clear hwe hwl h4 hk1
            go_wp2_with fail
            go_roundg (gk0 - 1)
            case measure => have := hk.out; omega
            case rel =>
              have hwlen : (want T).length = T.t.length + 2 := by rw [HWE.out]; simp
              have hkk := HK.out
              refine ⟨k2 + (1 + (T.t.length : Int) + 1), i + 1, rfl, rfl, by omega, by omega, by omega, by have := hk.out; unfold Hid; omega, ?_, below_tr hBr.out (below_tr hBi.out HB.out)⟩
              have h5 := HO5.out
              unfold Hid
              rw [show (k2 + (1 + (T.t.length : Int) + 1)).toNat = o + (want T).length from by omega, show (i + 1).toNat = i.toNat + 1 from by omega]
              exact h5
          · have q3 : (T.k == 1) = false := by simp [hk1]
            have hwe : want T = T.t := by unfold want; rw [if_neg hk1]
            have htl : T.t.length ≤ 2000 := by rw [← hwe]; omega
            have HWE := mkHid hwe
            have hcmp : ((s.extract k2.toNat (k2 + (T.t.length : Int)).toNat).toList == T.t) = true := by
              rw [beq_iff_eq]
              rw [extract_list]
              have h3 := HO3.out
              rw [hwe] at h3
              have := HK.out
              rw [show (k2 + (T.t.length : Int)).toNat - k2.toNat = T.t.length from by omega, show k2.toNat = o from by omega, h3]
              exact ba_toList _
            have hend : k2 + (T.t.length : Int) ≤ (s.size : Int) := by (have := HK.out); rw [hwe] at h4; omega
            have hend0 : k2 ≤ k2 + (T.t.length : Int) := by omega
            have hend1 : (T.t.length : Int) ≤ (s.size : Int) - k2 := by omega
            clear hwe h4 hk1
            go_wp2_with fail
            go_roundg (gk0 - 1)
            case measure => have := hk.out; omega
            case rel =>
              have hwlen : (want T).length = T.t.length := by rw [HWE.out]
              have hkk := HK.out
              refine ⟨k2 + (T.t.length : Int), i + 1, rfl, rfl, by omega, by omega, by omega, by have := hk.out; unfold Hid; omega, ?_, below_tr hBr.out (below_tr hBi.out HB.out)⟩
              have h5 := HO5.out
              unfold Hid
              rw [show (k2 + (T.t.length : Int)).toNat = o + (want T).length from by omega, show (i + 1).toNat = i.toNat + 1 from by omega]
              exact h5
    · go_wp2_with fail
      refine (lives_any _).mono ?_
      rintro e w' ⟨rfl, hB⟩
      have HB := mkHid hB
      clear hB
      go_wp2_with fail
      go_ret
      have c3 := HB05.out.alloc HB05.out.size (Obj.cells #[Value.int IntKind.i64 p1, Value.int IntKind.i64 q1] 25)
      rw [← HW.out] at c3
      have s1 := hBr.out.size
      have s2 := HB05.out.size
      have s3 : W.heap.size = w5.heap.size + 1 := by rw [HW.out]; simp
      exact ⟨rfl, (c3.trans (hBr.out.mono (by omega))).trans (HB.out.mono (by omega))⟩

theorem places_any (s : ByteArray) (a : Int) (w : World) (hs : s.size ≤ 140737488351232) :
    Calls Try.prog 6 #[.string s, .int .i64 a] w fun e w' => e = .returned (.bool true) ∧ Below w.heap.size w w' := by
  by_cases h : 2000 < s.size
  · exact places_long s a w hs h
  · exact places_short s a w (by omega)
end Go.Proofs.Ytpolmnemknehaaa
