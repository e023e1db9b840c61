/- slices.DeleteFunc over comm's communities, in place on an own row, with any test that answers. -/
import Derived.Test.YtikjfonedddlpaaCompactC
import Derived.Test.YtikjfonedddlpaaIdxComm
namespace Go.Proofs.Ytikjfonedddlpaa.P
open Go.RowKit Go.Proofs.YtikjfonedddlpaaW.PrintWords Go.Proofs.YtikjfonedddlpaaW.PrintLast Go.Proofs.YtikjfonedddlpaaW.PrintMore
set_option linter.unusedVariables false
set_option linter.unusedSimpArgs false

theorem idxB_neg {α : Type} (p : α → Bool) (l : List α) (h : idxB p l = -1) : l.filter (fun x => !p x) = l := by
  rw [List.filter_eq_self]
  intro x hx
  have h1 := idxB_any p l
  rw [h] at h1
  have h2 : l.any p = false := h1.symm
  rw [List.any_eq_false] at h2
  have := h2 x hx
  simpa using this
theorem idxB_pos {α : Type} (p : α → Bool) (l : List α) (i : Int) (h : idxB p l = i) (h1 : i ≠ -1) : 0 ≤ i ∧ ∃ x, l[i.toNat]? = some x ∧ p x = true ∧ (l.take i.toNat).filter (fun x => !p x) = l.take i.toNat := by
  unfold idxB at h
  cases hf : l.findIdx? p with
  | none => rw [hf] at h; exact absurd h.symm h1
  | some k =>
    rw [hf] at h
    replace h : (k : Int) = i := h
    subst h
    obtain ⟨hk, hp, hall⟩ := List.findIdx?_eq_some_iff_getElem.1 hf
    refine ⟨by omega, l[k], ?_, hp, ?_⟩
    · rw [Int.toNat_natCast]; exact List.getElem?_eq_getElem hk
    · rw [Int.toNat_natCast, List.filter_eq_self]
      intro x hx
      obtain ⟨j, hj, rfl⟩ := List.getElem_of_mem hx
      rw [List.getElem_take]
      rw [List.length_take] at hj
      have := hall j (by omega)
      simpa using this
theorem filter_snoc {α : Type} (p : α → Bool) (l : List α) (j : Nat) (x : α) (h : l[j]? = some x) : (l.take (j + 1)).filter p = (l.take j).filter p ++ if p x = true then [x] else [] := by
  rw [List.take_add_one, h, List.filter_append]
  by_cases e : p x = true <;> simp [e]
set_option maxHeartbeats 4000000 in
set_option maxRecDepth 100000 in
theorem delete_comm (fid : Nat) (cap0 : Array Value) (p : S23 → Bool) (hen : ∀ (args : Array Value) (W : World), (callFunc fid args).run Try.prog W = .ok (.enter fid args) W)
    (v : Value) (l : List S23) (base : Nat) (w : World)
    (hcl : ∀ x, x ∈ l → ∀ W, Below base w W → Calls Try.prog fid (#[.agg #[.int .i64 x.f0, .int .i64 x.f1]] ++ cap0) W fun e w' => e = .returned (.bool (p x)) ∧ Below W.heap.size W w')
    (HR0 : Kd.R k23 23 w base (fun _ => True) v l) (hl : l.length ≤ 1000000) (hbase : base ≤ w.heap.size) :
    Calls Try.prog 52 #[v, .func (.func fid) #[] cap0] w fun e w' => ∃ v' : Value, e = .returned v' ∧ Kd.R k23 23 w' base (fun _ => True) v' (l.filter fun x => !p x) ∧ Below base w w' := by
  obtain ⟨A, cap, hv, hlc, hC⟩ := Kd.R_reads HR0
  subst hv
  generalize hi : idxB p l = i
  have HIdx := idx_Comm fid cap0 p (fun W => Below base w W ∧ base ≤ W.heap.size) (fun W W' h hb => ⟨below_then h.1 h.2 hb, Nat.le_trans h.2 hb.size⟩) hen A cap l (fun x hx W hW => hcl x hx W hW.1) w hC ⟨Below.refl _ _, hbase⟩
  rw [hi] at HIdx
  have HI := mkHid HIdx
  have HR := mkHid HR0
  have HCL := mkHid hcl
  have HLC := mkHid hlc
  by_cases h1 : i = -1
  · have q1 : (i == -1) = true := by rw [h1]; rfl
    have HN := mkHid (idxB_neg p l (hi.trans h1))
    clear HIdx hC hcl hi h1 hen HR0 hlc
    go_enter Try.func52, Try.ntmps52
    go_wp2_with fail
    refine HI.out.mono ?_
    rintro e w1 ⟨rfl, hb⟩
    have HB := mkHid (below_then (Below.refl base w) hbase hb)
    have HR1 := mkHid (Kd.R_below HR.out hb)
    clear hb
    go_wp2_with fail
    go_ret
    exact ⟨_, rfl, by rw [HN.out]; exact HR1.out, HB.out⟩
  · have q1 : (i == -1) = false := by simp [h1]
    obtain ⟨i0, x0, hx0, hp0, hf0⟩ := idxB_pos p l i hi h1
    have hil : i.toNat < l.length := (List.getElem?_eq_some_iff.1 hx0).1
    obtain ⟨g, hg⟩ : ∃ g, A = some ⟨g, 0, none⟩ := by
      obtain ⟨_, inner, ⟨_, hr⟩, _⟩ := HR0
      rcases hr with ⟨he, hz⟩ | ⟨g, cap', cur, he, _⟩
      · omega
      · injection he with e1
        exact ⟨g, e1⟩
    subst hg
    obtain ⟨_, _, _, _, hnc, hcm, _, _, _⟩ := own_cells HR0
    obtain ⟨info0, hinf, _, hz1, _⟩ := info_parts info_comm
    have HINF := mkHid hinf
    have HZ := mkHid hz1
    have HX0 := mkHid hx0
    have HP0 := mkHid hp0
    have HF0 := mkHid hf0
    have hil2 : i < l.length := by omega
    have hw0 : IntKind.i64.wrap (i + 1) = i + 1 := IntWalk.i64_in _ (by omega)
    have hneg : 0 ≤ i + 1 := by omega
    clear HIdx hC hcl hi h1 HR0 hlc hinf hz1 hx0 hp0 hf0
    go_enter Try.func52, Try.ntmps52
    go_wp2_with fail
    refine HI.out.mono ?_
    rintro e w1 ⟨rfl, hb⟩
    have HB := mkHid (below_then (Below.refl base w) hbase hb)
    have HR1 := mkHid (Kd.R_below HR.out hb)
    clear hb HI
    go_wp2_with fail
    go_loopg [5, 6] l.length (fun kq v5 v6 wr => ∃ (m j : Int) (c : List S23), v5 = .int .i64 m ∧ v6 = .int .i64 j ∧ 0 ≤ m ∧ m < j ∧ j ≤ l.length ∧ Hid ((l.length : Int) ≤ j + kq) ∧
      Hid (Kd.R k23 23 wr base (fun _ => True) (.slice (some ⟨g, 0, none⟩) l.length cap) c) ∧ Hid (c.take m.toNat = (l.take j.toNat).filter fun x => !p x) ∧ Hid (∀ q, j.toNat ≤ q → c[q]? = l[q]?) ∧ Hid (Below base w wr))
    case atStart =>
      refine ⟨i, i + 1, l, rfl, rfl, by omega, by omega, by omega, by unfold Hid; omega, HR1.out, ?_, fun _ _ => rfl, HB.out⟩
      · show l.take i.toNat = (l.take (i + 1).toNat).filter fun x => !p x
        rw [show (i + 1).toNat = i.toNat + 1 by omega, filter_snoc _ l _ x0 HX0.out, HF0.out, HP0.out]; simp
    case round =>
      clear HR1 HB HR HX0 HP0 HF0
      obtain ⟨m, j, c, rfl, rfl, m0, mj, jl, ht, HR, hd, hdr, HB⟩ := hrel
      have ht1 := ht.out
      have hcll : l.length = c.length := (own_cells HR.out).choose_spec.2.2.1
      by_cases hjl : j < l.length
      · obtain ⟨x, hx⟩ : ∃ x, l[j.toNat]? = some x := ⟨_, List.getElem?_eq_getElem (h := by omega)⟩
        have hcx : c[j.toNat]? = some x := (hdr.out _ (Nat.le_refl _)).trans hx
        obtain ⟨d0, d1⟩ := own_cell HR.out hcx rfl
        have hsn := filter_snoc (fun x => !p x) l j.toNat x hx
        have q2 : decide (j < (l.length : Int)) = true := decide_eq_true hjl
        have hw3 : IntKind.i64.wrap (j + 1) = j + 1 := IntWalk.i64_in _ (by omega)
        have hw4 : IntKind.i64.wrap (m + 1) = m + 1 := IntWalk.i64_in _ (by omega)
        have jz : 0 ≤ j := by omega
        have mn : m < l.length := by omega
        have HX := mkHid hx
        have HSN := mkHid hsn
        have HCLL := mkHid hcll
        clear hx hcx hsn hcll
        go_wp2_with fail
        obtain ⟨W, hW⟩ : ∃ W, W = wr.alloc (Obj.cells #[.int .i64 x.f0, .int .i64 x.f1] 23) := ⟨_, rfl⟩
        rw [← hW]
        have c0 : W.cell? ⟨wr.heap.size, 0, none⟩ = some (.int .i64 x.f0) := by rw [hW]; go_simp
        have c1 : W.cell? ⟨wr.heap.size, 1, none⟩ = some (.int .i64 x.f1) := by rw [hW]; go_simp
        have hbW : Below wr.heap.size wr W := by rw [hW]; exact below_alloc (Below.refl _ _) _
        have hlt : wr.heap.size < W.heap.size := by rw [hW]; simp
        have HBW : Hid (Below base w W) := below_then HB.out (Nat.le_trans hbase HB.out.size) hbW
        have HRW : Hid (Kd.R k23 23 W base (fun _ => True) (.slice (some ⟨g, 0, none⟩) l.length cap) c) := Kd.R_below HR.out hbW
        clear hW hbW d0 d1
        cases hpx : p x with
        | true =>
          have HPX := mkHid hpx
          clear hpx
          refine (HCL.out x (List.mem_of_getElem? HX.out) _ HBW.out).mono ?_
          rintro e w' ⟨rfl, hb⟩
          have HB2 : Hid (Below base w w') := below_then HBW.out (Nat.le_trans hbase HBW.out.size) hb
          have HR2 := mkHid (Kd.R_below HRW.out hb)
          clear hb
          rw [HPX.out]
          go_wp2_with fail
          go_roundg (gk - 1)
          case measure => omega
          case rel =>
            refine ⟨m, j + 1, c, rfl, rfl, by omega, by omega, by omega, by unfold Hid; omega, HR2.out, ?_, fun i hi => hdr.out i (by omega), HB2.out⟩
            show c.take m.toNat = (l.take (j + 1).toNat).filter fun x => !p x
            rw [show (j + 1).toNat = j.toNat + 1 by omega, HSN.out, HPX.out, hd.out]; simp
        | false =>
          have HPX := mkHid hpx
          clear hpx
          obtain ⟨cm, hcm2⟩ : ∃ cm, c[m.toNat]? = some cm := ⟨_, List.getElem?_eq_getElem (h := by have := HCLL.out; omega)⟩
          refine (HCL.out x (List.mem_of_getElem? HX.out) _ HBW.out).mono ?_
          rintro e w' ⟨rfl, hb⟩
          have HB2 : Hid (Below base w w') := below_then HBW.out (Nat.le_trans hbase HBW.out.size) hb
          have HR2 := mkHid (Kd.R_below HRW.out hb)
          have HCM := mkHid (own_cell HR2.out hcm2 rfl)
          have d0 : w'.cell? ⟨wr.heap.size, 0, none⟩ = some (.int .i64 x.f0) := (hb.cell (p := ⟨wr.heap.size, 0, none⟩) hlt).trans c0
          have d1 : w'.cell? ⟨wr.heap.size, 1, none⟩ = some (.int .i64 x.f1) := (hb.cell (p := ⟨wr.heap.size, 1, none⟩) hlt).trans c1
          clear hb hcm2 c0 c1
          rw [HPX.out]
          go_wp2_with (refine Kd.R_store k23 (w0 := w) base ?a1 ?a2 23 (.tmp 33) (.tmp 32) ?a3 23 (g := g) (n := l.length) (cap := cap) (o' := m.toNat * 2) m 0 c x (.agg #[.int .i64 x.f0, .int .i64 x.f1]) (encC x) (encC cm) (fun _ => True) (fun _ => False) ?b1 ?b2 ?b3 ?b4 ?b5 ?b6 ?b7 ?b8 ?b9 ?c1 ?c2 ?c3 ?c4 ?c5 ?c6 ?_; (case a1 => rfl); (case a2 => rfl); (case a3 => rfl); (case b1 => rfl); (case b2 => rfl); (case b3 => rfl); (case b4 => rfl); (case b5 => rw [HINF.out]; exact congrArg some HZ.out); (case b6 => exact encC_one x); (case b7 => exact HR2.out); (case b8 => exact m0); (case b9 => exact mn); (case c1 => rfl); (case c2 => exact cellsC HCM.out); (case c3 => exact Nat.le_refl _); (case c4 => exact k23_mkM _ _ _ _); (case c5 => exact fun _ h => h.elim); (case c6 => exact HB2.out); intro w3 hR3 hB3 _)
          have HR3 := mkHid hR3
          have HB3 := mkHid hB3
          clear hR3 hB3
          go_wp2_with fail
          go_roundg (gk - 1)
          case measure => omega
          case rel =>
            refine ⟨m + 1, j + 1, c.set m.toNat x, rfl, rfl, by omega, by omega, by omega, by unfold Hid; omega, HR3.out, ?_, fun i hi => ?_, HB3.out⟩
            · show (c.set m.toNat x).take (m + 1).toNat = (l.take (j + 1).toNat).filter fun x => !p x
              rw [show (j + 1).toNat = j.toNat + 1 by omega, HSN.out, HPX.out, show (m + 1).toNat = m.toNat + 1 by omega, set_take (by have := HCLL.out; omega), hd.out]; simp
            · rw [List.getElem?_set_ne (by omega)]
              exact hdr.out i (by omega)
      · have q2 : decide (j < (l.length : Int)) = false := decide_eq_false (by omega)
        have hcut2 := cut_from (P := Try.prog) 32 23 .i64 Try.underlying32 HINF.out 2 HZ.out (some ⟨g, 0, none⟩) l.length cap m (by omega) (by omega)
        rw [show (if cap = m.toNat then some (⟨g, 0, none⟩ : Addr) else (some (⟨g, 0, none⟩ : Addr)).map (·.add (m.toNat * 2))) = some ⟨g, m.toNat * 2, none⟩ by rw [if_neg (by omega)]; simp [Addr.add]; omega] at hcut2
        have hcut3 := cut_to (P := Try.prog) 32 23 .i64 Try.underlying32 HINF.out (some ⟨g, 0, none⟩) l.length cap m (by omega) (by omega) (by omega)
        obtain ⟨w1, hclr, hR1, hB1⟩ := clear_comm (k := m.toNat) HR.out (by omega) 0 HB.out
        have HR1 := mkHid hR1
        have HB1 := mkHid hB1
        have hall : l.take j.toNat = l := List.take_of_length_le (by omega)
        have HD : Hid (c.take m.toNat = l.filter fun x => !p x) := by have := hd.out; rw [hall] at this; exact this
        clear hR1 hB1 hall hcll
        go_wp2_with fail
        go_ret
        exact ⟨_, rfl, by rw [← HD.out]; exact HR1.out, HB1.out⟩
end Go.Proofs.Ytikjfonedddlpaa.P
