/- slices.Compact over prefixes, in place on an own row. -/
import Derived.Test.YtndcjncamdhbfaaSmpS
import Derived.Test.YtndcjncamdhbfaaDdP
import Derived.Test.YtndcjncamdhbfaaPx0
import Derived.Test.YtndcjncamdhbfaaPx1
import Derived.Laws.CopyRow
import Derived.Laws.IdiomCopy
namespace Go.Proofs.Ytndcjncamdhbfaa.P
open Go.RowKit Go.Proofs.YtndcjncamdhbfaaW.PrintWords Go.Proofs.YtndcjncamdhbfaaW.PrintLast Go.Proofs.YtndcjncamdhbfaaW.PrintMore
set_option linter.unusedVariables false
set_option linter.unusedSimpArgs false

attribute [local go_sem high] eqA24
def eqP (x y : S24) : Bool := x.f0 == y.f0 && x.f1 == y.f1
theorem eqP_iff (x y : S24) : eqP x y = true ↔ x = y := by
  cases x; cases y; simp [eqP]
theorem own_cell {w : World} {base g n cap : Nat} {ok : Nat → Prop} {l : List S24} (h : Kd.R k24 24 w base ok (.slice (some ⟨g, 0, none⟩) n cap) l) {j o : Nat} {x : S24} (hx : l[j]? = some x) (ho : o = j * 2) :
    w.cell? ⟨g, o, none⟩ = some (.int .u32 x.f0) ∧ w.cell? ⟨g, o + 1, none⟩ = some (.int .i64 x.f1) := by
  subst ho
  obtain ⟨cur, hh, _, _, _, _, _, _, hc⟩ := own_cells h
  constructor
  · rw [cell_of_row w g _ cur _ (0, 0) hh, ← Array.getElem?_toList]; exact hc j x hx 0 _ rfl
  · rw [cell_of_row w g _ cur _ (0, 0) hh, ← Array.getElem?_toList]; exact hc j x hx 1 _ rfl
theorem info_pre : (Try.prog.info? 24).map (fun i => (i.zero, i.size, i.bytes)) = some (some (.agg #[.int .u32 0, .int .i64 0]), 2, 16) := by kernel_rfl
set_option maxRecDepth 100000 in
/-- what is behind the first k is made nought -/
theorem clear_pre {w w0 : World} {base g n cap k : Nat} {ok : Nat → Prop} {l : List S24} (h : Kd.R k24 24 w base ok (.slice (some ⟨g, 0, none⟩) n cap) l) (hk : k < n) (ty : TypeId) (hB : Below base w0 w) :
    ∃ w1, (Builtin.clear_ #[44] ty #[.slice (some ⟨g, k * 2, none⟩) (n - k) (cap - k)]).run Try.prog w = .ok (.tuple #[]) w1 ∧ Kd.R k24 24 w1 base ok (.slice (some ⟨g, 0, none⟩) k cap) (l.take k) ∧ Below base w0 w1 := by
  obtain ⟨cur, hh, hs, hn, hnc, hm, hb, hok, hc⟩ := own_cells h
  have hz : ∀ w, (zeroValue 24).run Try.prog w = .ok (.agg #[.int .u32 0, .int .i64 0]) w := Try.zeroValue24
  obtain ⟨zs, hzs⟩ : ∃ zs, zs = (Builtin.zeroCells ((.agg #[.int .u32 0, .int .i64 0]) : Value).cells (n - k)).toList := ⟨_, rfl⟩
  have hzl : zs.length = (n - k) * 2 := by rw [hzs, Array.length_toList, size_zeroCells]; rfl
  have hz1 : ∀ u ∈ zs, u.oneCell' = true := by
    intro u hu
    rw [hzs] at hu
    simp [Builtin.zeroCells] at hu
    obtain ⟨i, hi, rfl⟩ := hu
    rcases Nat.mod_two_eq_zero_or_one i with e | e <;> simp [Value.cells, e] <;> rfl
  have hfit : k * 2 + zs.length ≤ cur.size := by rw [hzl, hs]; show k * 2 + (n - k) * 2 ≤ cap * 2; omega
  have hst := run_storeCells_cells (P := Try.prog) g (k * 2) zs 0 w
    (fun j hj => by
      rw [Nat.add_zero, cell_of_row w g _ cur _ (0, 0) hh]
      simp; omega)
    (fun j hj => by simp [World.frozen?, hh]) hz1
  rw [Nat.add_zero] at hst
  obtain ⟨cur', h3, h4, h5⟩ := setCells_row zs (k * 2) w cur hh hfit
  obtain ⟨s1, s2, s3, s4⟩ := setCells_same g zs (k * 2) w
  obtain ⟨m, hmk⟩ : ∃ m, n - k = m + 1 := ⟨n - k - 1, by omega⟩
  refine ⟨w.setCells g (k * 2) zs, ?_, ?_, ?_⟩
  · rw [hmk] at hzs ⊢
    simp [Builtin.clear_, run_underlying Try.underlying44, hz, ← hzs, hst]
  · have hk2 : (l.take k).length = k := by rw [List.length_take]; omega
    have := own_of_cells (ok := ok) (l := l.take k) h3 (by rw [h4]; exact hs) (by omega) hm hb hok (fun j x hx i u hu => by
      have hj : j < k := by have := (List.getElem?_eq_some_iff.1 hx).1; omega
      have hi : i < 2 := (List.getElem?_eq_some_iff.1 hu).1
      rw [List.getElem?_take_of_lt hj] at hx
      rw [h5]
      show (cur.toList.take (k * 2) ++ zs ++ cur.toList.drop (k * 2 + zs.length))[j * 2 + i]? = some u
      have hlt : j * 2 + i < k * 2 := by omega
      have hcl : (cur.toList.take (k * 2)).length = k * 2 := by rw [List.length_take, Array.length_toList]; omega
      rw [List.append_assoc, List.getElem?_append_left (by omega), List.getElem?_take_of_lt hlt]
      exact hc j x hx i u hu)
    rw [hk2] at this
    exact this
  · exact hB.trans ⟨s1, s2, s3, by omega, fun q hq => setCells_far zs (k * 2) q (by omega)⟩
theorem set_take {α : Type} {c : List α} {i : Nat} {x : α} (h : i < c.length) : (c.set i x).take (i + 1) = c.take i ++ [x] := by
  rw [List.take_add_one, List.getElem?_set_self h, List.take_set, List.set_eq_of_length_le (by rw [List.length_take]; omega)]; rfl
theorem encP_one (x : S24) : ∀ q, q ∈ encP x → q.oneCell' = true := fun q hq => by simp [encP] at hq; rcases hq with rfl | rfl <;> rfl
theorem cellsC {w : World} {g o : Nat} {x : S24} (h : w.cell? ⟨g, o, none⟩ = some (.int .u32 x.f0) ∧ w.cell? ⟨g, o + 1, none⟩ = some (.int .i64 x.f1)) : ∀ (j : Nat) (u : Value), (encP x)[j]? = some u → w.cell? ⟨g, o + j, none⟩ = some u := by
  intro j u hu
  match j with
  | 0 => simp [encP] at hu; subst hu; exact h.1
  | 1 => simp [encP] at hu; subst hu; exact h.2
  | j + 2 => simp [encP] at hu
theorem below_dr {B : Nat} {w W : World} (h : Below B w W) (n : Nat) : Below B w (W.drewN n) := ⟨h.os, h.tape, h.output, h.size, h.block⟩
set_option maxHeartbeats 4000000 in
set_option maxRecDepth 100000 in
theorem compact_pre (v : Value) (l : List S24) (base : Nat) (w : World) (HR0 : Kd.R k24 24 w base (fun _ => True) v l) (hl : l.length ≤ 1000000) (hbase : base ≤ w.heap.size) :
    Calls Try.prog 55 #[v] w fun e w' => ∃ v' : Value, e = .returned v' ∧ Kd.R k24 24 w' base (fun _ => True) v' (dd eqP l) ∧ Below base w w' := by
  obtain ⟨p, cap, hv⟩ := Kd.R_slice HR0
  subst hv
  have HR := mkHid HR0
  by_cases h2 : l.length < 2
  · have q1 : decide ((l.length : Int) < 2) = true := decide_eq_true (by omega)
    clear HR0
    go_enter Try.func55, Try.ntmps55
    go_wp2_with fail
    go_ret
    exact ⟨_, rfl, by rw [dd_one eqP l (by omega)]; exact HR.out, Below.refl _ _⟩
  · obtain ⟨g, hg⟩ : ∃ g, p = some ⟨g, 0, none⟩ := by
      obtain ⟨_, inner, ⟨_, hr⟩, _⟩ := HR0
      rcases hr with ⟨he, hz⟩ | ⟨g, cap', cur, he, _⟩
      · omega
      · injection he with e1
        exact ⟨g, e1⟩
    subst hg
    obtain ⟨_, _, _, _, hnc, hcm, _, _, _⟩ := own_cells HR0
    have q1 : decide ((l.length : Int) < 2) = false := decide_eq_false (by omega)
    obtain ⟨i0, hi, _, hz1, _⟩ := info_parts info_pre
    have HI := mkHid hi
    have HZ := mkHid hz1
    clear HR0 hi hz1
    go_enter Try.func55, Try.ntmps55
    go_wp2_with fail
    go_loopg [3] l.length (fun kq v3 wr => ∃ k : Int, v3 = .int .i64 k ∧ 1 ≤ k ∧ k ≤ l.length ∧ Hid (k + kq = l.length + 1) ∧ Hid (dd eqP (l.take k.toNat) = l.take k.toNat) ∧ Hid (Kd.R k24 24 wr base (fun _ => True) (.slice (some ⟨g, 0, none⟩) l.length cap) l) ∧ Hid (Below base w wr))
    case atStart =>
      refine ⟨1, rfl, by omega, by omega, by unfold Hid; omega, ?_, HR.out, Below.refl _ _⟩
      exact dd_one eqP _ (by rw [List.length_take]; omega)
    case round =>
      clear HR
      obtain ⟨k, rfl, k0, kn, hk, hd, HR, HB⟩ := hrel
      have hk1 := hk.out
      by_cases hkn : k < l.length
      · obtain ⟨x, hx⟩ : ∃ x, l[k.toNat]? = some x := ⟨_, List.getElem?_eq_getElem (h := by omega)⟩
        obtain ⟨y, hy⟩ : ∃ y, l[k.toNat - 1]? = some y := ⟨_, List.getElem?_eq_getElem (h := by omega)⟩
        obtain ⟨d0, d1⟩ := own_cell HR.out hx rfl
        obtain ⟨d2, d3⟩ := own_cell HR.out hy rfl
        have hdd := dd_take eqP eqP_iff l k.toNat x y hx (by omega) hy
        have q2 : decide (k < (l.length : Int)) = true := decide_eq_true hkn
        have hw0 : IntKind.i64.wrap (k - 1) = k - 1 := IntWalk.i64_in _ (by omega)
        have kz : 0 ≤ k := by omega
        have kz1 : 0 ≤ k - 1 := by omega
        have kn1 : k - 1 < l.length := by omega
        have hw1 : IntKind.i64.wrap (k + 1) = k + 1 := IntWalk.i64_in _ (by omega)
        have HX := mkHid hx
        have HY := mkHid hy
        have HDD := mkHid hdd
        clear hx hy hdd
        cases hq : eqP x y with
        | false =>
          have q3 : (x.f0 == y.f0 && x.f1 == y.f1) = false := hq
          have HQ := mkHid hq
          clear hq
          go_wp2_with fail
          go_quiet (fail)
          go_wp2_with fail
          go_roundg (gk - 1)
          case measure => omega
          case rel =>
            refine ⟨k + 1, rfl, by omega, by omega, by unfold Hid; omega, ?_, Kd.R_drewN HR.out _, below_dr HB.out _⟩
            show dd eqP (l.take (k + 1).toNat) = l.take (k + 1).toNat
            rw [show (k + 1).toNat = k.toNat + 1 by omega, HDD.out, HQ.out, if_neg (by simp), hd.out, List.take_add_one, HX.out]; rfl
        | true =>
          have q3 : (x.f0 == y.f0 && x.f1 == y.f1) = true := hq
          have HQ := mkHid hq
          have hcut := cut_from (P := Try.prog) 44 24 .i64 Try.underlying44 HI.out 2 HZ.out (some ⟨g, 0, none⟩) l.length cap k (by omega) (by omega)
          rw [show (if cap = k.toNat then some (⟨g, 0, none⟩ : Addr) else (some (⟨g, 0, none⟩ : Addr)).map (·.add (k.toNat * 2))) = some ⟨g, k.toNat * 2, none⟩ by rw [if_neg (by omega)]; simp [Addr.add]; omega] at hcut
          clear hq
          go_wp2_with fail
          go_quiet (fail)
          go_wp2_with fail
          clear d0 d1 d2 d3
          go_loopg [3, 5] l.length (fun kq v3 v5 wr => ∃ (m t : Int) (c : List S24), v3 = .int .i64 m ∧ v5 = .int .i64 t ∧ 1 ≤ t ∧ k + t ≤ l.length ∧ k ≤ m ∧ m ≤ k + t - 1 ∧ Hid (t + kq = l.length + 1) ∧
            Hid (Kd.R k24 24 wr base (fun _ => True) (.slice (some ⟨g, 0, none⟩) l.length cap) c) ∧ Hid (c.take m.toNat = dd eqP (l.take (k + t).toNat)) ∧ Hid (∀ i, (k + t - 1).toNat ≤ i → c[i]? = l[i]?) ∧ Hid (Below base w wr))
          case atStart =>
            refine ⟨k, 1, l, rfl, rfl, by omega, by omega, by omega, by omega, by unfold Hid; omega, Kd.R_drewN HR.out _, ?_, fun _ _ => rfl, below_dr HB.out _⟩
            show l.take k.toNat = dd eqP (l.take (k + 1).toNat)
            rw [show (k + 1).toNat = k.toNat + 1 by omega, HDD.out, HQ.out, if_pos rfl, hd.out]
          case round =>
            clear HR HB HDD HQ hd
            obtain ⟨m, t, c, rfl, rfl, t0, tn, m0, m1, ht, HR, hd, hdr, HB⟩ := hrel
            have ht1 := ht.out
            have hcl : l.length = c.length := (own_cells HR.out).choose_spec.2.2.1
            by_cases htn : k + t < l.length
            · obtain ⟨x2, hx2⟩ : ∃ x2, l[(k + t).toNat]? = some x2 := ⟨_, List.getElem?_eq_getElem (h := by omega)⟩
              obtain ⟨y2, hy2⟩ : ∃ y2, l[(k + t).toNat - 1]? = some y2 := ⟨_, List.getElem?_eq_getElem (h := by omega)⟩
              have hcx : c[(k + t).toNat]? = some x2 := (hdr.out _ (by omega)).trans hx2
              have hcy : c[(k + t).toNat - 1]? = some y2 := (hdr.out _ (by omega)).trans hy2
              obtain ⟨d0, d1⟩ := own_cell HR.out hcx (show k.toNat * 2 + t.toNat * 2 = (k + t).toNat * 2 by omega)
              obtain ⟨d2, d3⟩ := own_cell HR.out hcy (show k.toNat * 2 + (t.toNat - 1) * 2 = ((k + t).toNat - 1) * 2 by omega)
              have hdd := dd_take eqP eqP_iff l (k + t).toNat x2 y2 hx2 (by omega) hy2
              have q4 : decide (t < ((l.length - k.toNat : Nat) : Int)) = true := decide_eq_true (by omega)
              have hw2 : IntKind.i64.wrap (t - 1) = t - 1 := IntWalk.i64_in _ (by omega)
              have hw3 : IntKind.i64.wrap (t + 1) = t + 1 := IntWalk.i64_in _ (by omega)
              have hw4 : IntKind.i64.wrap (m + 1) = m + 1 := IntWalk.i64_in _ (by omega)
              have tz : 0 ≤ t := by omega
              have tz1 : 0 ≤ t - 1 := by omega
              have tn1 : t < ((l.length - k.toNat : Nat) : Int) := by omega
              have tn2 : t - 1 < ((l.length - k.toNat : Nat) : Int) := by omega
              have mz : 0 ≤ m := by omega
              have mn : m < l.length := by omega
              have HX2 := mkHid hx2
              have HDD := mkHid hdd
              have HCL := mkHid hcl
              clear hx2 hy2 hcx hcy hdd hcl
              cases hq2 : eqP x2 y2 with
              | true =>
                have q5 : (x2.f0 == y2.f0 && x2.f1 == y2.f1) = true := hq2
                have HQ2 := mkHid hq2
                clear hq2
                go_wp2_with fail
                go_quiet (fail)
                go_wp2_with fail
                go_roundg (gk - 1)
                case measure => omega
                case rel =>
                  refine ⟨m, t + 1, c, rfl, rfl, by omega, by omega, by omega, by omega, by unfold Hid; omega, Kd.R_drewN HR.out _, ?_, fun i hi => hdr.out i (by omega), below_dr HB.out _⟩
                  show c.take m.toNat = dd eqP (l.take (k + (t + 1)).toNat)
                  rw [show (k + (t + 1)).toNat = (k + t).toNat + 1 by omega, HDD.out, HQ2.out, if_pos rfl, hd.out]
              | false =>
                have q5 : (x2.f0 == y2.f0 && x2.f1 == y2.f1) = false := hq2
                have HQ2 := mkHid hq2
                clear hq2
                obtain ⟨cm, hcm2⟩ : ∃ cm, c[m.toNat]? = some cm := ⟨_, List.getElem?_eq_getElem (h := by have := HCL.out; omega)⟩
                have HCM := mkHid (own_cell HR.out hcm2 rfl)
                clear hcm2
                go_wp2_with fail
                go_quiet (fail)
                go_wp2_with (refine Kd.R_store k24 (w0 := w) base ?a1 ?a2 24 (.tmp 51) (.tmp 50) ?a3 24 (g := g) (n := l.length) (cap := cap) (o' := m.toNat * 2) m 0 c x2 (.agg #[.int .u32 x2.f0, .int .i64 x2.f1]) (encP x2) (encP cm) (fun _ => True) (fun _ => False) ?b1 ?b2 ?b3 ?b4 ?b5 ?b6 ?b7 ?b8 ?b9 ?c1 ?c2 ?c3 ?c4 ?c5 ?c6 ?_; (case a1 => rfl); (case a2 => rfl); (case a3 => rfl); (case b1 => rfl); (case b2 => rfl); (case b3 => rfl); (case b4 => rfl); (case b5 => rw [HI.out]; exact congrArg some HZ.out); (case b6 => exact encP_one x2); (case b7 => exact Kd.R_drewN HR.out _); (case b8 => exact mz); (case b9 => exact mn); (case c1 => rfl); (case c2 => exact cellsC HCM.out); (case c3 => exact Nat.le_refl _); (case c4 => exact k24_mkM _ _ _ _); (case c5 => exact fun _ h => h.elim); (case c6 => exact below_dr HB.out _); intro w3 hR3 hB3 _)
                have HR3 := mkHid hR3
                have HB3 := mkHid hB3
                clear hR3 hB3
                go_wp2_with fail
                go_roundg (gk - 1)
                case measure => omega
                case rel =>
                  refine ⟨m + 1, t + 1, c.set m.toNat x2, rfl, rfl, by omega, by omega, by omega, by omega, by unfold Hid; omega, HR3.out, ?_, fun i hi => ?_, HB3.out⟩
                  · show (c.set m.toNat x2).take (m + 1).toNat = dd eqP (l.take (k + (t + 1)).toNat)
                    rw [show (k + (t + 1)).toNat = (k + t).toNat + 1 by omega, HDD.out, HQ2.out, if_neg (by simp), show (m + 1).toNat = m.toNat + 1 by omega, set_take (by have := HCL.out; omega), hd.out]
                  · rw [List.getElem?_set_ne (by omega)]
                    exact hdr.out i (by omega)
            · have q4 : decide (t < ((l.length - k.toNat : Nat) : Int)) = false := decide_eq_false (by omega)
              have hcut2 := cut_from (P := Try.prog) 44 24 .i64 Try.underlying44 HI.out 2 HZ.out (some ⟨g, 0, none⟩) l.length cap m (by omega) (by omega)
              rw [show (if cap = m.toNat then some (⟨g, 0, none⟩ : Addr) else (some (⟨g, 0, none⟩ : Addr)).map (·.add (m.toNat * 2))) = some ⟨g, m.toNat * 2, none⟩ by rw [if_neg (by omega)]; simp [Addr.add]; omega] at hcut2
              have hcut3 := cut_to (P := Try.prog) 44 24 .i64 Try.underlying44 HI.out (some ⟨g, 0, none⟩) l.length cap m (by omega) (by omega) (by omega)
              obtain ⟨w1, hclr, hR1, hB1⟩ := clear_pre (k := m.toNat) HR.out (by omega) 0 HB.out
              have HR1 := mkHid hR1
              have HB1 := mkHid hB1
              have hall : l.take (k + t).toNat = l := List.take_of_length_le (by omega)
              have HD : Hid (c.take m.toNat = dd eqP l) := by have := hd.out; rw [hall] at this; exact this
              clear hR1 hB1 hall hcl
              go_wp2_with fail
              go_ret
              exact ⟨_, rfl, by rw [← HD.out]; exact HR1.out, HB1.out⟩
      · have q2 : decide (k < (l.length : Int)) = false := decide_eq_false (by omega)
        go_wp2_with fail
        go_ret
        refine ⟨_, rfl, ?_, HB.out⟩
        have := hd.out
        rw [show l.take k.toNat = l from List.take_of_length_le (by omega)] at this
        rw [this]
        exact HR.out
end Go.Proofs.Ytndcjncamdhbfaa.P
