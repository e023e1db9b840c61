/- The walk of the law LexBlanks: it returns true for every three texts. -/
import Derived.Test.YtpolmnemknehaaaLexI
import Derived.Test.YtpolmnemknehaaaLexQ
set_option linter.unusedVariables false
set_option linter.unusedSimpArgs false
namespace Go.Proofs.Ytpolmnemknehaaa
open Go.RowKit

theorem below_drewN' {B : Nat} {a w : World} (h : Below B a w) (n : Nat) : Below B a (w.drewN n) := ⟨h.os, h.tape, h.output, h.size, h.block⟩

set_option maxHeartbeats 2000000 in
set_option maxRecDepth 100000 in
theorem blanks_long (a b r : ByteArray) (w : World) (ha : a.size ≤ 140737488351232) (hb : b.size ≤ 140737488351232) (hr : r.size ≤ 140737488351232) (hlen : 3000 < a.size + b.size + r.size) :
    Calls Try.prog 3 #[.string a, .string b, .string r] w fun e w' => e = .returned (.bool true) ∧ Below w.heap.size w w' := by
  have h1 : decide ((3000 : Int) < (a.size : Int) + b.size + r.size) = true := decide_eq_true (by omega)
  go_enter Try.func3, Try.ntmps3
  go_wp2_with fail
  refine (lives_any _).mono ?_
  rintro e w' ⟨rfl, hB⟩
  go_wp2_with fail
  go_ret
  exact ⟨rfl, hB⟩

/-- where no line ends before -/
def NoNl (r : ByteArray) (k : Nat) : Prop := ∀ j (h : j < r.size), j < k → r[j].toNat ≠ 10

set_option maxHeartbeats 2000000 in
set_option maxRecDepth 100000 in
theorem blanks_nl (a b r : ByteArray) (n : Nat) (w : World) (ha : a.size ≤ 140737488351232) (hb : b.size ≤ 140737488351232) (hr : r.size ≤ 140737488351232) (hlen : ¬ 3000 < a.size + b.size + r.size)
    (hn : n < r.size) (h10 : r[n].toNat = 10) (hno : NoNl r n) :
    Calls Try.prog 3 #[.string a, .string b, .string r] w fun e w' => e = .returned (.bool true) ∧ Below w.heap.size w w' := by
  have h1 : decide ((3000 : Int) < (a.size : Int) + b.size + r.size) = false := decide_eq_false (by omega)
  have H10 := mkHid h10
  clear h10
  go_enter Try.func3, Try.ntmps3
  go_wp2_with fail
  go_loop [7] (fun i => ∃ k : Int, 0 ≤ k ∧ k ≤ n ∧ i = .int .i64 k) (fun i => n - (intOf i).toNat)
  case atStart => exact ⟨0, by omega, by omega, rfl⟩
  case round =>
    obtain ⟨k, hk0, hk, rfl⟩ := hrel
    have hx := bt_at r k
    have hkr : k < (r.size : Int) := by omega
    have hbn := bt_nat r k.toNat (by omega)
    rw [show ((k.toNat : Nat) : Int) = k from by omega] at hbn
    by_cases hkn : k < n
    · have hq : (bt r k == 10) = false := by rw [hbn]; have := hno k.toNat (by omega) (by omega); simp; omega
      clear hbn
      go_wp2_with fail
      go_round
      case rel => exact ⟨k + 1, by omega, by omega, rfl⟩
      case measure => simp [intOf]; omega
    · have hq : (bt r k == 10) = true := by (obtain rfl : k = n := (by omega)); have h9 := H10.out; rw [hbn]; simp; omega
      clear hbn
      go_wp2_with fail
      refine (lives_any _).mono ?_
      rintro e w' ⟨rfl, hB⟩
      go_wp2_with fail
      go_ret
      exact ⟨rfl, hB⟩

set_option maxHeartbeats 4000000 in
set_option maxRecDepth 100000 in
theorem blanks_main (a b r : ByteArray) (w : World) (ha : a.size ≤ 140737488351232) (hb : b.size ≤ 140737488351232) (hr : r.size ≤ 140737488351232) (hlen : ¬ 3000 < a.size + b.size + r.size)
    (hno : NoNl r r.size) :
    Calls Try.prog 3 #[.string a, .string b, .string r] w fun e w' => e = .returned (.bool true) ∧ Below w.heap.size w w' := by
  have h1 : decide ((3000 : Int) < (a.size : Int) + b.size + r.size) = false := decide_eq_false (by omega)
  go_enter Try.func3, Try.ntmps3
  go_wp2_with fail
  go_loop [7] (fun i => ∃ k : Int, 0 ≤ k ∧ k ≤ r.size ∧ i = .int .i64 k) (fun i => r.size - (intOf i).toNat)
  case atStart => exact ⟨0, by omega, by omega, rfl⟩
  case round =>
    obtain ⟨k, hk0, hk, rfl⟩ := hrel
    by_cases hkr : k < (r.size : Int)
    · have hx := bt_at r k
      have hbn := bt_nat r k.toNat (by omega)
      rw [show ((k.toNat : Nat) : Int) = k from by omega] at hbn
      have hq : (bt r k == 10) = false := by rw [hbn]; have := hno k.toNat (by omega) (by omega); simp; omega
      clear hbn
      go_wp2_with fail
      go_round
      case rel => exact ⟨k + 1, by omega, by omega, rfl⟩
      case measure => simp [intOf]; omega
    · go_wp2_with fail
      refine (scan_gen a _ (by omega)).mono ?_
      rintro e w1 ⟨hB1, v1, p1, q1, E1, rfl, hR1⟩
      have HB1 := mkHid hB1
      clear hB1
      go_wp2_with fail
      refine (scan_gen b _ (by omega)).mono ?_
      rintro e w2 ⟨hB2, v2, p2, q2, E2, rfl, hR2⟩
      have HB2 := mkHid hB2
      clear hB2
      by_cases hE : E1 = 0 ∧ E2 = 0
      · obtain ⟨rfl, rfl⟩ := hE
        go_wp2_with fail
        refine (scan_gen _ _ (by simp only [ByteArray.size_append]; rw [show (ByteArray.mk #[10, 32, 9, 35]).size = 4 from rfl, show (ByteArray.mk #[10, 13]).size = 2 from rfl]; omega)).mono ?_
        rintro e w3 ⟨hB3, v3, p3, q3, E3, rfl, hR3⟩
        have HB3 := mkHid hB3
        clear hB3
        obtain ⟨_, ts, hts, ho1⟩ | ⟨h, _⟩ := hR1.out
        rotate_left
        · exact absurd rfl h
        obtain ⟨_, us, hus, ho2⟩ | ⟨h, _⟩ := hR2.out
        rotate_left
        · exact absurd rfl h
        have hlaw := blanks_law a.data.toList b.data.toList r.data.toList ts us (by
          intro x hx h
          obtain ⟨j, hj, rfl⟩ := List.getElem_of_mem hx
          simp at hj
          exact hno j hj hj (congrArg UInt8.toNat h)) (by simpa using hts) (by simpa using hus)
        obtain ⟨vs, hvs, hkt⟩ := hlaw
        have hcat : (a ++ ByteArray.mk #[10, 32, 9, 35] ++ r ++ ByteArray.mk #[10, 13] ++ b).data.toList = a.data.toList ++ [10, 32, 9, 35] ++ r.data.toList ++ [10, 13] ++ b.data.toList := by simp [ByteArray.data_append]
        have hsz : (a ++ ByteArray.mk #[10, 32, 9, 35] ++ r ++ ByteArray.mk #[10, 13] ++ b).size = (a.data.toList ++ [10, 32, 9, 35] ++ r.data.toList ++ [10, 13] ++ b.data.toList).length := by
          rw [← hcat]; rfl
        have hR4 := hR3.out
        rw [hsz, hcat, hvs] at hR4
        obtain ⟨hE3, zs, hzs, ho3⟩ | ⟨_, _, hz⟩ := hR4
        rotate_left
        · cases hz
        cases hzs
        subst hE3
        have hlt : ts.length ≤ 3000000 := by have := scan_count _ _ _ _ _ hts; simp at this; omega
        have hlu : us.length ≤ 3000000 := by have := scan_count _ _ _ _ _ hus; simp at this; omega
        clear hR3 hcat hsz hvs hts hus hR1 hR2 hno
        obtain ⟨A1, m1, rfl, hm1, hc1⟩ := own_shape ho1
        obtain ⟨A2, m2, rfl, hm2, hc2⟩ := own_shape ho2
        obtain ⟨A3, m3, rfl, hm3, hc3⟩ := own_shape ho3
        have hl3 : (ts ++ vs).length = ts.length + us.length := by
          have := congrArg List.length hkt; simp [kt] at this; simp; omega
        have HL3 := mkHid hl3
        obtain ⟨n1, hn1⟩ : ∃ n, n = ts.length := ⟨_, rfl⟩
        obtain ⟨n2, hn2⟩ : ∃ n, n = us.length := ⟨_, rfl⟩
        obtain ⟨n3, hn3⟩ : ∃ n, n = (ts ++ vs).length := ⟨_, rfl⟩
        rw [← hn1] at hm1 hc1 hlt ⊢
        rw [← hn2] at hm2 hc2 hlu ⊢
        rw [← hn3] at hm3 hc3 ⊢
        have hq : ((n3 : Int) != (n1 : Int) + (n2 : Int)) = false := by simp; omega
        have HN1 := mkHid hn1
        have HN2 := mkHid hn2
        have HN3 := mkHid hn3
        have HC1 := mkHid hc1
        have HC2 := mkHid hc2
        have HC3 := mkHid hc3
        have HKT := mkHid hkt
        clear hn1 hn2 hn3 hc1 hc2 hc3 ho1 ho2 ho3 hl3 hkt
        go_wp2_with fail
        obtain ⟨W, hW⟩ : ∃ W, W = w3.alloc (Obj.cells #[Value.int IntKind.i64 p3, Value.int IntKind.i64 q3] 25) := ⟨_, rfl⟩
        rw [← hW]
        have HW := mkHid hW
        clear hW
        go_loopg [17] n3 (fun kq v17 wr => ∃ k : Int, v17 = .int .i64 k ∧ 0 ≤ k ∧ Hid (k + kq = n3) ∧ Hid (Below W.heap.size W wr))
        case atStart => exact ⟨0, rfl, by omega, by unfold Hid; omega, Below.refl _ _⟩
        case round =>
          obtain ⟨k', rfl, hk0, hk, hBr⟩ := hrel
          have hk1 := hk.out
          by_cases hkn : k' < n3
          · have s1 := HB2.out.size
            have s2 := HB3.out.size
            have s3 : W.heap.size = w3.heap.size + 1 := by rw [HW.out]; simp
            simp only [World.size_alloc] at s1 s2
            have hb1 : ∀ g, g < w1.heap.size → wr.heap[g]? = w1.heap[g]? := fun g hg => by
              rw [hBr.out.block g (by omega), HW.out, heap_alloc_old _ _ (by omega), HB3.out.block g (by simp; omega), heap_alloc_old _ _ (by omega), HB2.out.block g (by simp; omega), heap_alloc_old _ _ hg]
            have hb2 : ∀ g, g < w2.heap.size → wr.heap[g]? = w2.heap[g]? := fun g hg => by
              rw [hBr.out.block g (by omega), HW.out, heap_alloc_old _ _ (by omega), HB3.out.block g (by simp; omega), heap_alloc_old _ _ hg]
            have hb3 : ∀ g, g < w3.heap.size → wr.heap[g]? = w3.heap[g]? := fun g hg => by
              rw [hBr.out.block g (by omega), HW.out, heap_alloc_old _ _ hg]
            obtain ⟨g3, rfl, _, hg3, hcell3⟩ := HC3.out (by omega)
            obtain ⟨T, hT⟩ : ∃ T, (ts ++ vs)[k'.toNat]? = some T := by
              have := HN3.out
              exact ⟨_, List.getElem?_eq_getElem (h := by omega)⟩
            obtain ⟨t0, t1, t2, t3⟩ := toks_get _ _ _ hT
            have d0 := (World.cell?_of_block (a := ⟨g3, k'.toNat * 4, none⟩) (hb3 g3 hg3)).trans (hcell3 _ _ t0)
            have d1 := (World.cell?_of_block (a := ⟨g3, k'.toNat * 4 + 1, none⟩) (hb3 g3 hg3)).trans (hcell3 _ _ t1)
            have d2 := (World.cell?_of_block (a := ⟨g3, k'.toNat * 4 + 2, none⟩) (hb3 g3 hg3)).trans (hcell3 _ _ t2)
            have d3 := (World.cell?_of_block (a := ⟨g3, k'.toNat * 4 + 3, none⟩) (hb3 g3 hg3)).trans (hcell3 _ _ t3)
            have hgr3 : g3 < wr.heap.size := by have := hBr.out.size; omega
            clear t0 t1 t2 t3 hcell3
            by_cases hk1' : k' < n1
            · obtain ⟨g1, rfl, _, hg1, hcell1⟩ := HC1.out (by omega)
              have hT1 : ts[k'.toNat]? = some T := by
                have := HN1.out
                rw [List.getElem?_append_left (by omega)] at hT; exact hT
              obtain ⟨t0, t1, t2, t3⟩ := toks_get _ _ _ hT1
              have e0 := (World.cell?_of_block (a := ⟨g1, k'.toNat * 4, none⟩) (hb1 g1 hg1)).trans (hcell1 _ _ t0)
              have e1 := (World.cell?_of_block (a := ⟨g1, k'.toNat * 4 + 1, none⟩) (hb1 g1 hg1)).trans (hcell1 _ _ t1)
              have e2 := (World.cell?_of_block (a := ⟨g1, k'.toNat * 4 + 2, none⟩) (hb1 g1 hg1)).trans (hcell1 _ _ t2)
              have e3 := (World.cell?_of_block (a := ⟨g1, k'.toNat * 4 + 3, none⟩) (hb1 g1 hg1)).trans (hcell1 _ _ t3)
              have hgr1 : g1 < wr.heap.size := by have := hBr.out.size; omega
              clear t0 t1 t2 t3 hcell1 hb1 hb2 hb3 hT hT1 s1 s2 s3 hk1
              have q1 : decide (k' < (n1 : Int)) = true := decide_eq_true hk1'
              go_wp2_with fail
              go_quiet (fail)
              go_wp2_with fail
              go_roundg (gk - 1)
              case measure => have := hk.out; omega
              case rel => exact ⟨k' + 1, rfl, by omega, by have := hk.out; unfold Hid; omega, below_drewN' (hBr.out.alloc (by have := hBr.out.size; omega) _) _⟩
            · obtain ⟨g2, rfl, _, hg2, hcell2⟩ := HC2.out (by have := HL3.out; have := HN1.out; have := HN2.out; have := HN3.out; omega)
              obtain ⟨T2, hT2⟩ : ∃ T2, us[(k'.toNat - n1)]? = some T2 := by
                have := HL3.out; have := HN1.out; have := HN2.out; have := HN3.out
                exact ⟨_, List.getElem?_eq_getElem (h := by omega)⟩
              have hTv : vs[(k'.toNat - n1)]? = some T := by
                have := HN1.out
                rw [List.getElem?_append_right (by omega)] at hT
                rw [← hT]; congr 1; omega
              have hkk : T2.k = T.k ∧ T2.t = T.t := by
                have h1 := congrArg (fun l => l[(k'.toNat - n1)]?) HKT.out
                simp only [kt, List.getElem?_map, hT2, hTv, Option.map_some, Option.some.injEq, Prod.mk.injEq] at h1
                exact ⟨h1.1.symm, h1.2.symm⟩
              obtain ⟨t0, t1, t2, t3⟩ := toks_get _ _ _ hT2
              rw [hkk.1] at t0
              rw [hkk.2] at t1
              have e0 := (World.cell?_of_block (a := ⟨g2, (k'.toNat - n1) * 4, none⟩) (hb2 g2 hg2)).trans (hcell2 _ _ t0)
              have e1 := (World.cell?_of_block (a := ⟨g2, (k'.toNat - n1) * 4 + 1, none⟩) (hb2 g2 hg2)).trans (hcell2 _ _ t1)
              have e2 := (World.cell?_of_block (a := ⟨g2, (k'.toNat - n1) * 4 + 2, none⟩) (hb2 g2 hg2)).trans (hcell2 _ _ t2)
              have e3 := (World.cell?_of_block (a := ⟨g2, (k'.toNat - n1) * 4 + 3, none⟩) (hb2 g2 hg2)).trans (hcell2 _ _ t3)
              have hgr2 : g2 < wr.heap.size := by have := hBr.out.size; omega
              have q0 : 0 ≤ k' - (n1 : Int) := by omega
              have q2 : k' - (n1 : Int) < (n2 : Int) := by have := HL3.out; have := HN1.out; have := HN2.out; have := HN3.out; omega
              clear t0 t1 t2 t3 hcell2 hb1 hb2 hb3 hT hTv hT2 hkk s1 s2 s3 hk1
              have q1 : decide (k' < (n1 : Int)) = false := decide_eq_false hk1'
              go_wp2_with fail
              go_quiet (fail)
              go_wp2_with fail
              go_roundg (gk - 1)
              case measure => have := hk.out; omega
              case rel => exact ⟨k' + 1, rfl, by omega, by have := hk.out; unfold Hid; omega, below_drewN' (hBr.out.alloc (by have := hBr.out.size; omega) _) _⟩
          · go_wp2_with fail
            refine (lives_any _).mono ?_
            rintro e w4 ⟨rfl, hB4⟩
            have HB4 := mkHid hB4
            clear hB4
            go_wp2_with fail
            go_ret
            have s0 := HB1.out.size
            have s1 := HB2.out.size
            have s2 := HB3.out.size
            have s4 := hBr.out.size
            have c1 := (HB1.out.alloc s0 (Obj.cells #[Value.int IntKind.i64 p1, Value.int IntKind.i64 q1] 25)).trans (HB2.out.mono (by simp; omega))
            simp only [World.size_alloc] at s1 s2
            have c2 := (c1.alloc (by omega) (Obj.cells #[Value.int IntKind.i64 p2, Value.int IntKind.i64 q2] 25)).trans (HB3.out.mono (by simp; omega))
            have c3 := c2.alloc (by omega) (Obj.cells #[Value.int IntKind.i64 p3, Value.int IntKind.i64 q3] 25)
            rw [← HW.out] at c3
            have s3 : W.heap.size = w3.heap.size + 1 := by rw [HW.out]; simp
            exact ⟨rfl, (c3.trans (hBr.out.mono (by omega))).trans (HB4.out.mono (by omega))⟩
      · by_cases hE1 : E1 = 0
        · have k1 : (E1 != 0) = false := by simp [hE1]
          have k2 : (E2 != 0) = true := by simp; intro h; exact hE ⟨hE1, h⟩
          clear hE hE1
          go_wp2_with fail
          refine (lives_any _).mono ?_
          rintro e w' ⟨rfl, hB⟩
          have HB := mkHid hB
          clear hB
          go_wp2_with fail
          go_ret
          have s0 := HB1.out.size
          have s1 := HB2.out.size
          have c1 := (HB1.out.alloc s0 (Obj.cells #[Value.int IntKind.i64 p1, Value.int IntKind.i64 q1] 25)).trans (HB2.out.mono (by simp; omega))
          simp only [World.size_alloc] at s1
          exact ⟨rfl, (c1.alloc (by omega) (Obj.cells #[Value.int IntKind.i64 p2, Value.int IntKind.i64 q2] 25)).trans (HB.out.mono (by simp; omega))⟩
        · have k1 : (E1 != 0) = true := by simp [hE1]
          clear hE hE1
          go_wp2_with fail
          refine (lives_any _).mono ?_
          rintro e w' ⟨rfl, hB⟩
          have HB := mkHid hB
          clear hB
          go_wp2_with fail
          go_ret
          have s0 := HB1.out.size
          have s1 := HB2.out.size
          have c1 := (HB1.out.alloc s0 (Obj.cells #[Value.int IntKind.i64 p1, Value.int IntKind.i64 q1] 25)).trans (HB2.out.mono (by simp; omega))
          simp only [World.size_alloc] at s1
          exact ⟨rfl, (c1.alloc (by omega) (Obj.cells #[Value.int IntKind.i64 p2, Value.int IntKind.i64 q2] 25)).trans (HB.out.mono (by simp; omega))⟩

theorem blanks_any (a b r : ByteArray) (w : World) (ha : a.size ≤ 140737488351232) (hb : b.size ≤ 140737488351232) (hr : r.size ≤ 140737488351232) :
    Calls Try.prog 3 #[.string a, .string b, .string r] w fun e w' => e = .returned (.bool true) ∧ Below w.heap.size w w' := by
  by_cases hlen : 3000 < a.size + b.size + r.size
  · exact blanks_long a b r w ha hb hr hlen
  · by_cases hn : NoNl r r.size
    · exact blanks_main a b r w ha hb hr hlen hn
    · have : ∃ n, ∃ h : n < r.size, r[n].toNat = 10 ∧ NoNl r n := by
        have key : ∀ m, m ≤ r.size → NoNl r m ∨ ∃ n, ∃ h : n < r.size, r[n].toNat = 10 ∧ NoNl r n := by
          intro m
          induction m with
          | zero => intro _; exact .inl (fun j _ hj => by omega)
          | succ m ih =>
            intro hm
            rcases ih (by omega) with h | h
            · by_cases h10 : r[m].toNat = 10
              · exact .inr ⟨m, by omega, h10, h⟩
              · refine .inl (fun j hj hjm => ?_)
                by_cases e : j = m
                · subst e; exact h10
                · exact h j hj (by omega)
            · exact .inr h
        rcases key r.size (Nat.le_refl _) with h | h
        · exact absurd h hn
        · exact h
      obtain ⟨n, h, h10, hno⟩ := this
      exact blanks_nl a b r n w ha hb hr hlen h h10 hno
end Go.Proofs.Ytpolmnemknehaaa
