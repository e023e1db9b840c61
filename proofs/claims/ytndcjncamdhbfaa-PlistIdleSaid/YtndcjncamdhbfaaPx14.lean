/- Printed by this session's own program (wip/tools/pr.py) out of the translation: functions of the program as plain Lean functions, and that the program's calls come to what these say. -/
import Derived.Test.YtndcjncamdhbfaaPx0
import Derived.Test.YtndcjncamdhbfaaPx13
import Derived.Test.YtndcjncamdhbfaaSmpT
namespace Go.Proofs.Ytndcjncamdhbfaa.P
open Go.RowKit Go.Proofs.YtndcjncamdhbfaaW.PrintWords Go.Proofs.YtndcjncamdhbfaaW.PrintLast Go.Proofs.YtndcjncamdhbfaaW.PrintMore
attribute [local go_sem] max2_int min2_int max_two min_two max_three min_three max_four min_four   -- for this text's walks alone
set_option linter.unusedVariables false
set_option linter.unusedSimpArgs false

/-! ### plist_samples: function 41 -/
-- EXT Derived.Test.YtndcjncamdhbfaaSmpT
-- ALONE
def plist_samples.f (l0 : List S26) (a1 : Int) : Option (List S24) := if 0 ≤ a1 ∧ a1 ≤ 32 ∧ l0.length ≤ 1000 ∧ l0.all okR = true then some (dd eqP (sortS (smp l0 a1))) else none
theorem plist_samples.grow {w W W' : World} {bits : Int} {v : Value} {xs : List S24} (h : SmpSt w W bits v xs) (hb : Below W.heap.size W W') : SmpSt w W' bits v xs :=
  ⟨h.bel.trans (hb.mono h.bel.size), Nat.lt_of_lt_of_le h.siz hb.size, (hb.block _ (by have := h.siz; omega)).trans h.hb, (hb.block _ h.siz).trans h.ho, Kd.R_below h.row hb⟩
set_option maxHeartbeats 4000000 in
set_option maxRecDepth 100000 in
theorem plist_samples.calls (A0 : Option Addr) (c0 : Nat) (l0 : List S26) (a1 : Int) (r : List S24) (w : World) (hr0 : Kd.C k26 w A0 l0.length l0) (hc0 : l0.length ≤ c0) (h : plist_samples.f l0 a1 = some r) :
    Calls Try.prog 41 #[.slice A0 l0.length c0, .int .i64 a1] w fun e w' => ∃ v0_ : Value, e = .returned v0_ ∧ Kd.R k24 24 w' w.heap.size (fun _ => True) v0_ r ∧ Below w.heap.size w w' := by
  unfold plist_samples.f at h
  split at h
  · rename_i hg
    obtain ⟨b0, b1, hlen, hall⟩ := hg
    obtain rfl := Option.some.inj h
    have HR0 := mkHid hr0
    have HA := mkHid (List.all_eq_true.1 hall)
    have HALL := mkHid hall
    clear hr0 h hall
    go_enter Try.func41, Try.ntmps41
    go_wp2_with fail
    obtain ⟨W1, hW1⟩ : ∃ W1, W1 = (w.alloc (Obj.cells #[Value.int IntKind.i64 a1] 3)).alloc (Obj.cells #[Value.slice none 0 0] 44) := ⟨_, rfl⟩
    rw [← hW1]
    have h1 : W1.heap[w.heap.size]? = some (.cells #[.int .i64 a1] 3 (0, 0)) := by rw [hW1, Below.heap_alloc _ _ _ (by simp)]; exact heap_alloc_new w _
    have h2 : W1.heap[w.heap.size + 1]? = some (.cells #[.slice none 0 0] 44 (0, 0)) := by
      have := heap_alloc_new (w.alloc (Obj.cells #[Value.int IntKind.i64 a1] 3)) (Obj.cells #[Value.slice none 0 0] 44)
      rw [show (w.alloc (Obj.cells #[Value.int IntKind.i64 a1] 3)).heap.size = w.heap.size + 1 by simp] at this
      rw [hW1]; exact this
    have hB1 : Below w.heap.size w W1 := by rw [hW1]; exact ((Below.refl _ _).alloc (Nat.le_refl _) _).alloc (by simp) _
    have hS1 : SmpSt w W1 a1 (.slice none 0 0) [] := ⟨hB1, blk_lt h2, h1, h2, Kd.R_nil _ _ _ _ _⟩
    clear hW1 h2 hB1
    refine (cut_calls w W1 0 a1 _ [] ⟨Int.le_refl 0, by omega⟩ b0 b1 hS1 (by simp) w.heap.size #[.int .i64 a1] 3 (by decide) (by omega) h1).mono ?_
    rintro e w1 ⟨rfl, _, v1, hS2⟩
    have HS2 := mkHid hS2
    clear hS1 hS2 h1
    go_wp2_with fail
    go_loopg [15] l0.length (fun kq v15 wr => ∃ (i : Int) (v : Value), v15 = .int .i64 i ∧ 0 ≤ i ∧ i ≤ l0.length ∧ Hid (i + kq = l0.length) ∧ Hid (SmpSt w wr a1 v (smp (l0.take i.toNat) a1)))
    case atStart => exact ⟨0, v1, rfl, by omega, by omega, by unfold Hid; omega, HS2.out⟩
    case round =>
      clear HS2
      obtain ⟨i, v, rfl, i0, il, hk, HS⟩ := hrel
      have hk1 := hk.out
      by_cases hil : i < l0.length
      · have q1 : decide (i < (l0.length : Int)) = true := decide_eq_true hil
        obtain ⟨p, hp⟩ : ∃ p, l0[i.toNat]? = some p := ⟨_, List.getElem?_eq_getElem (h := by omega)⟩
        have HP := mkHid hp
        have hok : okR p = true := HA.out p (List.mem_of_getElem? hp)
        obtain ⟨pa, pm⟩ := (okR_iff p).1 hok
        have hla := last_isA p hok
        have HL := mkHid (lastS_is p.f0.f0 p.f0.f1 pa pm)
        obtain ⟨ad, hA', hc0, hc1, hc2, hc3, hc4⟩ := at_T26 (Kd.C_below HR0.out HS.out.bel) i i0 (by omega)
        subst hA'
        have hpe : rd_T26 l0 i = p := by unfold rd_T26; rw [List.getD_eq_getElem?_getD, hp]; rfl
        rw [hpe] at hc0 hc1 hc2 hc3 hc4
        have hw1 : IntKind.i64.wrap (i + 1) = i + 1 := IntWalk.i64_in _ (by omega)
        clear hp hpe hok
        have hlen2 : (smp (l0.take i.toNat) a1).length ≤ 2001 := by have := smp_len (l0.take i.toNat) a1; have := List.length_take_le i.toNat l0; omega
        have HLN := mkHid hlen2
        obtain ⟨L, hL⟩ : ∃ L, L = p.f0.f0 + (un p.f0.f1 - 1) := ⟨_, rfl⟩
        have HLL := mkHid hL
        rw [← hL] at HL hla
        clear hlen2 hL
        go_wp2_with fail
        obtain ⟨W2, hW2⟩ : ∃ W2, W2 = wr.alloc (.cells #[.int .u32 p.f0.f0, .int .i64 p.f0.f1, .int .i64 p.f1, .int .i64 p.f2, .bool p.f3] 26) := ⟨_, rfl⟩
        rw [← hW2]
        have HB2 : Hid (Below wr.heap.size wr W2) := by rw [hW2]; exact (Below.refl _ _).alloc (Nat.le_refl _) _
        have hq2 : W2.heap[wr.heap.size]? = some (.cells #[.int .u32 p.f0.f0, .int .i64 p.f0.f1, .int .i64 p.f1, .int .i64 p.f2, .bool p.f3] 26 (0, 0)) := by rw [hW2]; exact heap_alloc_new wr _
        clear hW2 hc0 hc1 hc2 hc3 hc4
        have hws : w.heap.size + 1 < wr.heap.size := HS.out.siz
        refine (cut_calls w W2 p.f0.f0 a1 v _ pa b0 b1 (plist_samples.grow HS.out HB2.out) (by have := HLN.out; omega) wr.heap.size #[.int .u32 p.f0.f0, .int .i64 p.f0.f1, .int .i64 p.f1, .int .i64 p.f2, .bool p.f3] 26 (by decide) (by omega) hq2).mono ?_
        rintro e w3 ⟨rfl, hq3, v3, hS3⟩
        have HS3 := mkHid hS3
        have e0 : w3.cell? ⟨wr.heap.size, 0, none⟩ = some (.int .u32 p.f0.f0) := (blk_cell hq3 0).trans rfl
        have e1 : w3.cell? ⟨wr.heap.size, 1, none⟩ = some (.int .i64 p.f0.f1) := (blk_cell hq3 1).trans rfl
        clear hS3 hq2 hq3
        go_wp2_with fail
        refine (addr_Last.calls p.f0.f0 p.f0.f1 L w3 HL.out).mono ?_
        rintro e w4 ⟨rfl, hb4⟩
        have HS4 := mkHid (plist_samples.grow HS3.out hb4)
        clear hb4 e0 e1 HS3 HB2
        have HTK := mkHid (smp_take l0 a1 i.toNat p HP.out)
        by_cases hL4 : L = 4294967295
        · have q2 : (L != 4294967295) = false := by rw [hL4]; rfl
          have HL4 := mkHid hL4
          clear hL4
          go_wp2_with fail
          go_roundg (l0.length - i.toNat - 1)
          case measure => omega
          case rel =>
            refine ⟨i + 1, v3, rfl, by omega, by omega, by unfold Hid; omega, ?_⟩
            show SmpSt w w4 a1 v3 (smp (l0.take (i + 1).toNat) a1)
            rw [show (i + 1).toNat = i.toNat + 1 by omega, HTK.out]
            unfold smp1
            rw [if_pos (HLL.out.symm.trans HL4.out)]
            exact HS4.out
        · have q2 : (L != 4294967295) = true := by simpa using hL4
          have HL4 := mkHid hL4
          have hL1 : isA (L + 1) := ⟨by have := hla.1; omega, by have := hla.2; omega⟩
          have hwL : IntKind.u32.wrap (L + 1) = L + 1 := by rw [IntKind.wrap_u32]; have := hL1.1; have := hL1.2; omega
          clear hL4
          go_wp2_with fail
          refine (cut_calls w w4 (L + 1) a1 v3 _ hL1 b0 b1 HS4.out (by have := HLN.out; simp; omega) w.heap.size #[.int .i64 a1] 3 (by decide) (by omega) HS4.out.hb).mono ?_
          rintro e w5 ⟨rfl, _, v5, hS5⟩
          have HS5 := mkHid hS5
          clear hS5 HS4
          go_wp2_with fail
          go_roundg (l0.length - i.toNat - 1)
          case measure => omega
          case rel =>
            refine ⟨i + 1, v5, rfl, by omega, by omega, by unfold Hid; omega, ?_⟩
            show SmpSt w w5 a1 v5 (smp (l0.take (i + 1).toNat) a1)
            rw [show (i + 1).toNat = i.toNat + 1 by omega, HTK.out]
            unfold smp1
            rw [if_neg (fun h => HL4.out (HLL.out.trans h)), show p.f0.f0 + un p.f0.f1 = L + 1 by have := HLL.out; omega]
            have := HS5.out
            rw [List.append_assoc] at this
            exact this
      · have q1 : decide (i < (l0.length : Int)) = false := decide_eq_false (by omega)
        have hall : l0.take i.toNat = l0 := List.take_of_length_le (by omega)
        rw [hall] at HS
        have kc : wr.cell? ⟨w.heap.size + 1, 0, none⟩ = some v := (blk_cell HS.out.ho 0).trans rfl
        have HLN : Hid ((smp l0 a1).length ≤ 2001) := by unfold Hid; have := smp_len l0 a1; omega
        obtain ⟨A3, c3, hv⟩ := Kd.R_slice HS.out.row
        obtain ⟨n3, hn3⟩ : ∃ n3 : Nat, n3 = (smp l0 a1).length := ⟨_, rfl⟩
        rw [← hn3] at hv
        subst hv
        clear hall hn3
        go_wp2_with fail
        obtain ⟨la, hla⟩ := lift_ok _ (smp_ok l0 a1 b0 b1 HALL.out)
        have hne : (24 : TypeId) ≠ 44 := by decide
        refine (sort_smp _ la _ hla w.heap.size wr HS.out.row (by have := HLN.out; omega)).mono ?_
        rintro e w2 ⟨rfl, hR2, hB2, hK2⟩
        have kc2 : w2.cell? ⟨w.heap.size + 1, 0, none⟩ = some (.slice A3 n3 c3) := (blk_cell (hK2 _ _ _ hne HS.out.ho) 0).trans rfl
        have HR2 := mkHid hR2
        have HB2 : Hid (Below w.heap.size w w2) := HS.out.bel.trans hB2
        have HLS : Hid ((sortS (smp l0 a1)).length ≤ 2001) := by unfold Hid sortS; rw [List.length_mergeSort]; exact HLN.out
        clear hR2 hB2 hK2 hla
        go_wp2_with fail
        refine (compact_pre _ _ w.heap.size w2 HR2.out (by have := HLS.out; omega) HB2.out.size).mono ?_
        rintro e w3 ⟨v3, rfl, hR3, hB3⟩
        have HR3 := mkHid hR3
        have HB3 : Hid (Below w.heap.size w w3) := HB2.out.trans hB3
        clear hR3 hB3
        go_wp2_with fail
        go_ret
        exact ⟨_, rfl, HR3.out, HB3.out⟩
  · exact absurd h (by simp)

end Go.Proofs.Ytndcjncamdhbfaa.P
