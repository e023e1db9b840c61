/- The walk of the law LexBack: it returns true for every text. -/
import Derived.Test.YtpolmnemknehaaaLexK
import Derived.Test.YtpolmnemknehaaaLexS
set_option linter.unusedVariables false
set_option linter.unusedSimpArgs false
namespace Go.Proofs.Ytpolmnemknehaaa
open Go.RowKit

set_option maxHeartbeats 2000000 in
set_option maxRecDepth 100000 in
theorem back_long (s : ByteArray) (w : World) (hs : s.size ≤ 140737488351232) (h : 4000 < s.size) :
    Calls Try.prog 5 #[.string s] w fun e w' => e = .returned (.bool true) ∧ Below w.heap.size w w' := by
  have h1 : decide ((4000 : Int) < (s.size : Int)) = true := decide_eq_true (by omega)
  go_enter Try.func5, Try.ntmps5
  go_wp2_with fail
  refine (lives_any _).mono ?_
  rintro e w' ⟨rfl, hB⟩
  go_wp2_with fail
  go_ret
  exact ⟨rfl, hB⟩

set_option maxHeartbeats 4000000 in
set_option maxRecDepth 100000 in
theorem back_short (s : ByteArray) (w : World) (h : s.size ≤ 4000) :
    Calls Try.prog 5 #[.string s] w fun e w' => e = .returned (.bool true) ∧ Below w.heap.size w w' := by
  have h1 : decide ((4000 : Int) < (s.size : Int)) = false := decide_eq_false (by omega)
  go_enter Try.func5, Try.ntmps5
  go_wp2_with fail
  refine (scan_gen s _ (by omega)).mono ?_
  rintro e w1 ⟨hB1, v1, p1, q1, E1, rfl, hR1⟩
  have HB1 := mkHid hB1
  clear hB1
  obtain ⟨hE, ts, hts, ho1⟩ | ⟨hE, hv, hts⟩ := hR1.out
  rotate_left
  · subst hv
    have k1 : (E1 != 0) = true := by simp [hE]
    clear hE
    go_wp2_with fail
    refine (lives_any _).mono ?_
    rintro e w' ⟨rfl, hB⟩
    have HB := mkHid hB
    clear hB
    go_wp2_with fail
    go_ret
    exact ⟨rfl, (HB1.out.alloc HB1.out.size _).trans (HB.out.mono (by have := HB1.out.size; simp; omega))⟩
  subst hE
  obtain ⟨A1, m1, rfl, hm1, hc1⟩ := own_shape ho1
  have hlt : ts.length ≤ 4000 := by have := scan_count _ _ _ _ _ hts; simp at this; omega
  have HR := mkHid hts
  have HC1 := mkHid hc1
  obtain ⟨n1, hn1⟩ : ∃ n, n = ts.length := ⟨_, rfl⟩
  clear hts hc1 ho1 hR1
  rw [← hn1] at hm1 HC1 hlt ⊢
  have HN1 := mkHid hn1
  clear hn1
  go_wp2_with fail
  have hjl : (joinL ts).length ≤ 1099511627776 := by have := joinL_len ts (scan_wf _ _ _ _ _ HR.out); have := HN1.out; omega
  refine (join_any A1 n1 m1 ts _ HN1.out (by omega) hm1 hjl ?_).mono ?_
  · intro h0
    obtain ⟨g, h1, _, h2, h3⟩ := HC1.out h0
    exact ⟨g, h1, by simp; omega, fun j u hu => (World.cell?_of_block (heap_alloc_old _ _ h2)).trans (h3 j u hu)⟩
  rintro e w2 ⟨rfl, hB2⟩
  have HB2 := mkHid hB2
  clear hB2
  have hsz : (⟨(joinL ts).toArray⟩ : ByteArray).size = (joinL ts).length := size_list _
  by_cases hl8 : 8192 < (joinL ts).length
  · have k2 : decide ((8192 : Int) < ((⟨(joinL ts).toArray⟩ : ByteArray).size : Int)) = true := decide_eq_true (by omega)
    go_wp2_with fail
    refine (lives_any _).mono ?_
    rintro e w' ⟨rfl, hB⟩
    have HB := mkHid hB
    clear hB
    go_wp2_with fail
    go_ret
    have s1 := HB1.out.size
    have s2 := HB2.out.size
    simp only [World.size_alloc] at s2
    exact ⟨rfl, ((HB1.out.alloc s1 _).trans (HB2.out.mono (by simp; omega))).trans (HB.out.mono (by omega))⟩
  · have k2 : decide ((8192 : Int) < ((⟨(joinL ts).toArray⟩ : ByteArray).size : Int)) = false := decide_eq_false (by omega)
    go_wp2_with fail
    refine (scan_gen _ _ (by omega)).mono ?_
    rintro e w3 ⟨hB3, v3, p3, q3, E3, rfl, hR3⟩
    have HB3 := mkHid hB3
    clear hB3
    obtain ⟨us, hus, hkt⟩ := back_law ts (scan_wf _ _ _ _ _ HR.out) ((⟨(joinL ts).toArray⟩ : ByteArray).size + 1) (1, 1) (by omega)
    obtain ⟨hE3, zs, hzs, ho3⟩ | ⟨_, _, hz⟩ := hR3.out
    rotate_left
    · rw [show (⟨(joinL ts).toArray⟩ : ByteArray).data.toList = joinL ts from by simp, hus] at hz; cases hz
    rw [show (⟨(joinL ts).toArray⟩ : ByteArray).data.toList = joinL ts from by simp, hus] at hzs
    cases hzs
    subst hE3
    obtain ⟨A3, m3, rfl, hm3, hc3⟩ := own_shape ho3
    have hlu : us.length = ts.length := by have := congrArg List.length hkt; simpa [kt] using this
    have hju := joinL_kt ts us hkt
    rw [hlu, ← HN1.out] at hm3 hc3 ⊢
    have HC3 := mkHid hc3
    have HKT := mkHid hkt
    have HJU := mkHid hju
    have HLU := mkHid hlu
    clear hus hR3 ho3 hc3 hkt hju hlu hsz
    go_wp2_with fail
    refine (join_any A3 n1 m3 us _ (by have := HLU.out; have := HN1.out; omega) (by omega) hm3 (by rw [HJU.out]; exact hjl) ?_).mono ?_
    · intro h0
      obtain ⟨g, h1, _, h2, h3⟩ := HC3.out h0
      exact ⟨g, h1, by simp; omega, fun j u hu => (World.cell?_of_block (heap_alloc_old _ _ h2)).trans (h3 j u hu)⟩
    rintro e w4 ⟨rfl, hB4⟩
    rw [HJU.out]
    have HB4 := mkHid hB4
    clear hB4
    go_wp2_with fail
    go_loopg [10] n1 (fun kq v10 wr => ∃ k : Int, v10 = .int .i64 k ∧ 0 ≤ k ∧ Hid (k + kq = n1) ∧ Hid (∃ m, wr = w4.drewN m))
    case atStart => exact ⟨0, rfl, by omega, by unfold Hid; omega, ⟨0, rfl⟩⟩
    case round =>
      obtain ⟨k, rfl, k0, hk, hD⟩ := hrel
      have hk1 := hk.out
      have s1 := HB1.out.size
      have s2 := HB2.out.size
      have s3 := HB3.out.size
      have s4 := HB4.out.size
      simp only [World.size_alloc] at s2 s4
      have hwr : ∀ g : Nat, wr.heap[g]? = w4.heap[g]? := fun g => by (obtain ⟨m, hm⟩ := hD.out); rw [hm]; rfl
      by_cases hkn : k < n1
      · obtain ⟨g1, rfl, _, hg1, hcell1⟩ := HC1.out (by omega)
        obtain ⟨g3, rfl, _, hg3, hcell3⟩ := HC3.out (by omega)
        have hb3 : ∀ g, g < w3.heap.size → wr.heap[g]? = w3.heap[g]? := fun g hg => by
          rw [hwr, HB4.out.block g (by simp; omega), heap_alloc_old _ _ hg]
        have hb1 : ∀ g, g < w1.heap.size → wr.heap[g]? = w1.heap[g]? := fun g hg => by
          rw [hb3 g (by omega), HB3.out.block g (by omega), HB2.out.block g (by simp; omega), heap_alloc_old _ _ hg]
        obtain ⟨T1, hT1⟩ : ∃ T, ts[k.toNat]? = some T := ⟨_, List.getElem?_eq_getElem (h := by have := HN1.out; omega)⟩
        obtain ⟨T3, hT3⟩ : ∃ T, us[k.toNat]? = some T := ⟨_, List.getElem?_eq_getElem (h := by have := HN1.out; have := HLU.out; omega)⟩
        have hkk : T3.k = T1.k ∧ T3.t = T1.t := by
          have h1 := congrArg (fun l => l[k.toNat]?) HKT.out
          simp only [kt, List.getElem?_map, hT1, hT3, Option.map_some, Option.some.injEq, Prod.mk.injEq] at h1
          exact ⟨h1.1, h1.2⟩
        obtain ⟨t0, t1, t2, t3⟩ := toks_get _ _ _ hT1
        obtain ⟨u0, u1, u2, u3⟩ := toks_get _ _ _ hT3
        rw [hkk.1] at u0
        rw [hkk.2] at u1
        have d0 := (World.cell?_of_block (a := ⟨g1, k.toNat * 4, none⟩) (hb1 g1 hg1)).trans (hcell1 _ _ t0)
        have d1 := (World.cell?_of_block (a := ⟨g1, k.toNat * 4 + 1, none⟩) (hb1 g1 hg1)).trans (hcell1 _ _ t1)
        have e0 := (World.cell?_of_block (a := ⟨g3, k.toNat * 4, none⟩) (hb3 g3 hg3)).trans (hcell3 _ _ u0)
        have e1 := (World.cell?_of_block (a := ⟨g3, k.toNat * 4 + 1, none⟩) (hb3 g3 hg3)).trans (hcell3 _ _ u1)
        clear t0 t1 t2 t3 u0 u1 u2 u3 hcell1 hcell3 hb1 hb3 hwr hT1 hT3 hkk s1 s2 s3 s4 hk1
        go_wp2_with fail
        go_quiet (fail)
        go_wp2_with fail
        go_roundg (gk - 1)
        case measure => have := hk.out; omega
        case rel => exact ⟨k + 1, rfl, by omega, by have := hk.out; unfold Hid; omega, by obtain ⟨m, hm⟩ := hD.out; exact ⟨_, by rw [hm, World.drewN_drewN]⟩⟩
      · go_wp2_with fail
        refine (lives_any _).mono ?_
        rintro e w5 ⟨rfl, hB5⟩
        have HB5 := mkHid hB5
        clear hB5
        go_wp2_with fail
        go_ret
        have b4 : Below w4.heap.size w4 wr := by obtain ⟨m, hm⟩ := hD.out; rw [hm]; exact ⟨rfl, rfl, rfl, Nat.le_refl _, fun _ _ => rfl⟩
        have c1 := (HB1.out.alloc s1 _).trans (HB2.out.mono (by simp; omega))
        have c2 := (c1.trans (HB3.out.mono (by omega))).alloc (by omega) (Obj.cells #[Value.int IntKind.i64 p3, Value.int IntKind.i64 q3] 25)
        have c3 := c2.trans (HB4.out.mono (by simp; omega))
        have s5 := b4.size
        exact ⟨rfl, (c3.trans (b4.mono (by omega))).trans (HB5.out.mono (by omega))⟩
theorem back_any (s : ByteArray) (w : World) (hs : s.size ≤ 140737488351232) :
    Calls Try.prog 5 #[.string s] w fun e w' => e = .returned (.bool true) ∧ Below w.heap.size w w' := by
  by_cases h : 4000 < s.size
  · exact back_long s w hs h
  · exact back_short s w (by omega)
end Go.Proofs.Ytpolmnemknehaaa
