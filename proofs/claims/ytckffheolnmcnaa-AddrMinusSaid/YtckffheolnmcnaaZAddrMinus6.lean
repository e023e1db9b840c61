/- Part of the proof of RowAddrMinus: what it asks of functions, words and plain facts (put together by this session's own program, wip/tools/shake.py). -/
import Derived.Test.YtckffheolnmcnaaZAddrMinus0
import Derived.Test.YtckffheolnmcnaaZAddrMinus1
import Derived.Test.YtckffheolnmcnaaZAddrMinus2
import Derived.Test.YtckffheolnmcnaaZAddrMinus3
import Derived.Test.YtckffheolnmcnaaZAddrMinus4
import Derived.Test.YtckffheolnmcnaaZAddrMinus5
import Derived.Deep.Slices
import Derived.ChangeArms
import Derived.OpenShut
import Derived.SizedLaws
import Derived.KernelRfl
section
namespace Go.Proofs.Ytckffheolnmcnaa.P
open Go.RowKit Go.Proofs.YtckffheolnmcnaaW.PrintWords Go.Proofs.YtckffheolnmcnaaW.PrintLast Go.Proofs.YtckffheolnmcnaaW.PrintMore
attribute [local go_sem] max2_int min2_int max_two min_two max_three min_three max_four min_four   -- for this text's walks alone
set_option linter.unusedVariables false
set_option linter.unusedSimpArgs false

mutual
def whirligiglaw01_AddrMinus.j0 : Nat → List (S30) → Int → Bool → Int → Int → Option (Bool)
  | 0, _, _, _, _, _ => none
  | k + 1, x0, x2, x18, x396000, x396001 => if x18 = true then ((whirligiglaw01_lives.f k).bind fun t396 => (some t396)) else ((addr_Minus.f k x0 x396000 x396001).bind fun bt397 => ((whirligigref01_Why.f k x0).bind fun t401 => (if t401 = 0 then ((whirligigref01_May.f k x396000 x396001).bind fun t404 => (if t404 = true then (if bt397.2 = 0 then ((whirligigref01_IsPlain.f k bt397.1).bind fun t406 => (whirligiglaw01_AddrMinus.j1 k x0 x2 bt397.1 (!t406) x396000 x396001)) else (whirligiglaw01_AddrMinus.j1 k x0 x2 bt397.1 true x396000 x396001)) else (if (bt397.1.length : Int) = 0 then (if bt397.2 = 1 then ((whirligiglaw01_lives.f k).bind fun t405 => (some t405)) else (some false)) else (some false)))) else (if (bt397.1.length : Int) = 0 then ((whirligigref01_Why.f k x0).bind fun t402 => (if bt397.2 = t402 then ((whirligiglaw01_lives.f k).bind fun t403 => (some t403)) else (some false))) else (some false)))))
def whirligiglaw01_AddrMinus.j1 : Nat → List (S30) → Int → List (S30) → Bool → Int → Int → Option (Bool)
  | 0, _, _, _, _, _, _ => none
  | k + 1, x0, x2, x7, x60, x396000, x396001 => if x60 = true then (some false) else ((whirligigref01_Edges.f k x0).bind fun t407 => ((whirligigref01_Edges.f k x7).bind fun t410 => (if t407.length + t410.length < 35184372088832 then ((some (t407 ++ t410 : List Int)).bind fun y413 => ((whirligigref01_Edges.f k (([(⟨x396000, x396001⟩ : S30)] : List (S30)))).bind fun t419 => (if y413.length + t419.length < 35184372088832 then ((some (y413 ++ t419 : List Int)).bind fun y422 => (if y422.length < 35184372088832 then (whirligiglaw01_AddrMinus.l0 k x0 x7 (y422 ++ [x2]) 0 x396000 x396001) else (none))) else (none)))) else (none))))
def whirligiglaw01_AddrMinus.l0 : Nat → List (S30) → List (S30) → List Int → Int → Int → Int → Option (Bool)
  | 0, _, _, _, _, _, _ => none
  | k + 1, x0, x7, x9, x10, x396000, x396001 => if x10 < (x9.length : Int) then (if 0 ≤ x10 then ((whirligigref01_In.f k x7 (rd x9 x10)).bind fun t430 => ((whirligigref01_In.f k x0 (rd x9 x10)).bind fun t432 => (if t432 = true then ((whirligigref01_Has.f k x396000 x396001 (rd x9 x10)).bind fun t434 => (if (t430 != (!t434)) = true then (some false) else (whirligiglaw01_AddrMinus.l0 k x0 x7 x9 (wrap64 (x10 + 1)) x396000 x396001))) else (if (t430 != false) = true then (some false) else (whirligiglaw01_AddrMinus.l0 k x0 x7 x9 (wrap64 (x10 + 1)) x396000 x396001))))) else (none)) else ((whirligiglaw01_lives.f k).bind fun t428 => (some t428))
end
def whirligiglaw01_AddrMinus.f (k : Nat) (l0 : List (S30)) (a1_0 : Int) (a1_1 : Int) (a2 : Int) : Option (Bool) := if (l0.length : Int) > 30 then (whirligiglaw01_AddrMinus.j0 k l0 a2 (decide ((l0.length : Int) ≤ 1024)) a1_0 a1_1) else (whirligiglaw01_AddrMinus.j0 k l0 a2 false a1_0 a1_1)
def whirligiglaw01_AddrMinus.T17 : Bool × List (List Nat × List Nat) := (true, [([], []), ([], []), ([], []), ([1, 2], [1, 2]), ([3], [3]), ([0, 4], [0, 4]), ([], []), ([], []), ([], []), ([7, 8], [7, 8]), ([9], [9]), ([6, 10, 5], [6, 10]), ([11, 11], [11]), ([12], [12]), ([12], [12]), ([12], [12]), ([14, 15, 12], [12, 14, 15]), ([16, 12], [12, 16]), ([13, 17, 12, 12], [12, 13, 17]), ([18, 12], [12, 18]), ([12, 19], [12, 19]), ([5, 20], [5, 20])])
def whirligiglaw01_AddrMinus.B17 : List Nat := [0, 0, 0, 6, 14, 31, 0, 0, 0, 384, 896, 2047, 4095, 8191, 8191, 8191, 57343, 122879, 262143, 524287, 1048575, 2097151]
theorem whirligiglaw01_AddrMinus.tab17 : rtab .any (opsOf Try.f7 17) = whirligiglaw01_AddrMinus.T17 := by kernel_rfl
theorem whirligiglaw01_AddrMinus.bits17 : waitsOk whirligiglaw01_AddrMinus.T17.2 whirligiglaw01_AddrMinus.B17 = true := by kernel_rfl
theorem k3e4e.b2 {W : World} {g : Nat} {v0 v1 : Value} {t : TypeId} (h : W.heap[g]? = some (.cells #[v0, v1] t (0, 0))) {R : Prop} (r : R) : W.cell? ⟨g, 0, none⟩ = some v0 ∧ W.cell? ⟨g, 1, none⟩ = some v1 ∧ R :=
  ⟨(blk_cell h 0).trans rfl, (blk_cell h 1).trans rfl, r⟩
theorem k3e4e.q {w W W' : World} {g : Nat} {o : Obj} (h : w.heap[g]? = some o) (hb : Below W.heap.size W W') (e : W.heap = w.heap) : W'.heap[g]? = some o := blk_below (e ▸ h) hb
theorem k3e4e.z {w0 w W W' : World} (h : Below w0.heap.size w0 w) (hb : Below W.heap.size W W') (e : W.heap = w.heap) (e1 : W.os = w.os) (e2 : W.tape = w.tape) (e3 : W.output = w.output) : Below w0.heap.size w0 W' := below_step ⟨e1.trans h.os, e2.trans h.tape, e3.trans h.output, e ▸ h.size, fun k hk => by rw [e]; exact h.block k hk⟩ hb
set_option maxHeartbeats 8000000 in
set_option maxRecDepth 100000 in
theorem whirligiglaw01_AddrMinus.calls (k : Nat) (A0 : Option Addr) (c0 : Nat) (l0 : List (S30)) (ab : Int) (ac : Int) (a2 : Int) (r : Bool) (w : World) (hr0 : Kd.C k30 w A0 l0.length l0) (hc0 : l0.length ≤ c0) (h : whirligiglaw01_AddrMinus.f k l0 ab ac a2 = some r) :
  Calls Try.prog 7 #[.slice A0 l0.length c0, .agg #[.int .u32 ab, .int .i64 ac], .int .u32 a2] w fun e w' => e = .returned (.bool r) ∧ Below w.heap.size w w' := by
 have hu30 := Try.underlying30
 have ap := Aside0.mk hr0
 have aq := Aside0.mk hc0
 clear hr0 hc0
 have HB := Aside0.mk (Below.refl w.heap.size w)
 have H : (if (l0.length : Int) > 30 then (whirligiglaw01_AddrMinus.j0 k l0 a2 (decide ((l0.length : Int) ≤ 1024)) ab ac) else (whirligiglaw01_AddrMinus.j0 k l0 a2 false ab ac)) = some r := h
 clear h
 have HC4 := Aside0.mk H
 clear H
 go_enter Try.func7, Try.ntmps7
 go_upto_region 1 with (first | ((with_reducible refine gate_dst (N := 4) rfl ?_); (try (refine gate_guard (by rfl) ?_; dsimp only)); refine box_event ?hg (N := 4) ?hd (cs := #[.int .u32 ab, .int .i64 ac]) (t := 30) ?hr ?_; (case hd => rfl); (case hg => rfl); (case hr => first | (go_simp; done) | (go_simp; rfl)); intro ae hg w5 hbox hb; have n0_ := Aside0.mk (k3e4e.z HB.out hb rfl rfl rfl rfl); have n1_ := Aside0.mk (hbox); have n2_ := Aside0.mk ((by rw [hg]; exact (below_size (by repeat (first | (with_reducible first | exact HB.out | apply below_alloc | apply pw_below_drewN | apply below_drew1) | exact HB.out))) : w.heap.size ≤ ae)); have n3_ := Aside0.mk ((by rw [hg]; exact (below_size (by repeat (first | (with_reducible first | exact HB.out | apply below_alloc | apply pw_below_drewN | apply below_drew1) | exact HB.out))) : w.heap.size ≤ ae)); clear HB; have HB := n0_; have aa := n1_; have GW395 := n2_; have GE395 := n3_; clear n0_ n1_ n2_ n3_; clear hb hbox hg))
 (try simp only [Act.put, List.setIfInBounds_toArray, List.set_cons_zero, List.set_cons_succ])
 go_cut [18] (fun v18 wc => ∃ (kq : Nat) (x18_3 : Bool), v18 = .bool x18_3 ∧ Aside0 (whirligiglaw01_AddrMinus.j0 kq l0 a2 x18_3 ab ac = some r) ∧ Aside0 (kq ≤ k) ∧ Aside0 (wc.heap[ae]? = some (.cells #[.int .u32 ab, .int .i64 ac] 30 (0, 0))) ∧ Aside0 (Below w.heap.size w wc))
 case first =>
  have H := HC4.out
  clear HC4
  by_cases c6 : (l0.length : Int) > 30
  ·rw [if_pos c6] at H
   have c6b0 : decide (30 < (l0.length : Int)) = true := decide_eq_true c6
   have c6b1 : decide (30 < l0.length) = true := decide_eq_true (by omega)
   clear c6
   (first | rw [c6b0] | (simp only [i64_w]; rw [c6b0]) | skip)
   have H' := Aside0.mk H
   clear H
   go_wp2
   go_meet
   case rel => exact ⟨_, (decide ((l0.length : Int) ≤ 1024)), (by first | rfl | (simp; done) | (simp [*]; done)), H', ⟨by first | omega | exact Nat.le_refl _⟩, ⟨by (with_reducible repeat (first | refine blk_drewN ?_ _ | refine blk_drew ?_ | refine blk_alloc ?_ _)); exact aa.out⟩, ⟨by repeat (first | (with_reducible first | exact HB.out | apply below_alloc | apply pw_below_drewN | apply below_drew1) | exact HB.out)⟩⟩
  ·rw [if_neg c6] at H
   have c6b0 : decide (30 < (l0.length : Int)) = false := decide_eq_false c6
   have c6b1 : decide (30 < l0.length) = false := decide_eq_false (by omega)
   clear c6
   (first | rw [c6b0] | (simp only [i64_w]; rw [c6b0]) | skip)
   have H' := Aside0.mk H
   clear H
   go_wp2
   go_meet
   case rel => exact ⟨_, (false), (by first | rfl | (simp; done) | (simp [*]; done)), H', ⟨by first | omega | exact Nat.le_refl _⟩, ⟨by (with_reducible repeat (first | refine blk_drewN ?_ _ | refine blk_drew ?_ | refine blk_alloc ?_ _)); exact aa.out⟩, ⟨by repeat (first | (with_reducible first | exact HB.out | apply below_alloc | apply pw_below_drewN | apply below_drew1) | exact HB.out)⟩⟩
 case rest =>
  clear HC4
  try clear p2
  try clear c6
  try clear c6b0
  try clear c6b1
  obtain ⟨kq, x18_3, rfl, HA, HJ3, aa, HB⟩ := hcut
  cases kq with
  | zero => exact absurd HA.out (by simp [whirligiglaw01_AddrMinus.j0])
  | succ ak =>
   have H := HA.out
   clear HA
   simp only [whirligiglaw01_AddrMinus.j0] at H
   by_cases c7 : x18_3 = true
   ·subst c7
    have H1 : ((whirligiglaw01_lives.f ak).bind fun t396 => (some t396)) = some r := by rw [if_pos rfl] at H; exact H
    clear H
    have H := H1
    clear H1
    replace H := Option.bind_eq_some_iff.mp H
    obtain ⟨t396, A80, H⟩ := H
    replace H : (some t396) = some r := H
    have A8 := Aside0.mk A80
    clear A80
    obtain rfl := Option.some.inj H
    go_wp2_with (first | ((with_reducible refine gate_callee (f := 8) rfl ?_); refine goesL_ (some 19) rfl rfl Try.func8 (by kernel_rfl) rfl #[] rfl (by (try simp only [List.map_toArray, List.map_cons, List.map_nil]); first | done | rfl) ?_; (with_reducible refine (whirligiglaw01_lives.calls ak  t396 _ A8.out).mono ?_); rintro e w9 ⟨rfl, hb⟩; refine ⟨_, rfl, ?_⟩; replace aa := Aside0.mk (k3e4e.q aa.out hb rfl); replace HB := Aside0.mk (k3e4e.z HB.out hb rfl rfl rfl rfl); (try clear hb); (try clear ai); (try clear hk); (try clear hi)))
    go_ret
    exact ⟨by first | rfl | (simp [errW_none, errW_some] <;> rfl) | (simp [*, errW_none, errW_some] <;> rfl), by repeat (first | (with_reducible first | exact HB.out | apply below_alloc | apply pw_below_drewN | apply below_drew1) | exact HB.out)⟩
   ·replace c7 := Bool.eq_false_iff.mpr c7
    subst c7
    have H1 := H
    rw [if_neg (show ¬ (false = true) by decide)] at H1
    clear H
    have H := H1
    clear H1
    replace H := Option.bind_eq_some_iff.mp H
    obtain ⟨⟨t397, t400⟩, A100, H⟩ := H
    (try dsimp only at H)
    have A10 := Aside0.mk A100
    clear A100
    replace H := Option.bind_eq_some_iff.mp H
    obtain ⟨t401, A110, H⟩ := H
    (try dsimp only at H)
    have A11 := Aside0.mk A110
    clear A110
    by_cases av : t401 = 0
    ·rw [if_pos av] at H
     have c12b0 : (t401 == 0) = true := beq_iff_eq.mpr av
     have c12b1 : (t401 != 0) = false := bne_eq_false_iff_eq.mpr av
     clear av
     replace H := Option.bind_eq_some_iff.mp H
     obtain ⟨t404, A130, H⟩ := H
     (try dsimp only at H)
     have A13 := Aside0.mk A130
     clear A130
     by_cases c14 : t404 = true
     ·subst c14
      have H1 := H
      rw [if_pos rfl] at H1
      clear H
      have H := H1
      clear H1
      have HC15 := Aside0.mk H
      clear H
      have hcz16_0 : wc.cell? ⟨ae, 0, none⟩ = some (.int .u32 ab) := (blk_cell aa.out 0).trans rfl
      have hcz16_1 : wc.cell? ⟨ae, 1, none⟩ = some (.int .i64 ac) := (blk_cell aa.out 1).trans rfl
      have hfz16_0 := blk_frozen aa.out 0
      have hfz16_1 := blk_frozen aa.out 1
      go_upto_region 8 with (first | ((with_reducible refine gate_callee (f := 28) rfl ?_); refine goesL_ (some 23) rfl rfl Try.func28 (by kernel_rfl) rfl #[.slice A0 l0.length c0, .agg #[.int .u32 ab, .int .i64 ac]] rfl (by (try simp only [List.map_toArray, List.map_cons, List.map_nil]); first | done | rfl) ?_; (with_reducible refine (addr_Minus.calls ak _ _ l0 ab ac t397 t400 _ ?side1 ?side2 A10.out).mono ?_); (case side1 => repeat (first | exact (Kd.C_below ap.out HB.out) | (with_reducible refine Kd.C_alloc ?_ _) | (with_reducible refine Kd.C_drewN ?_ _) | (with_reducible refine Kd.C_drew ?_))); (case side2 => exact aq.out); rintro e w17 ⟨v398, rfl, ho0, hb⟩; refine ⟨_, rfl, ?_⟩; have ad := Aside0.mk (Kd.R_lower (Kd.R_newB ho0 (g := ae) (o := .cells #[.int .u32 ab, .int .i64 ac] 30 (0, 0)) (by (with_reducible repeat (first | refine blk_drewN ?_ _ | refine blk_drew ?_ | refine blk_alloc ?_ _)); exact aa.out)) (below_size (by repeat (first | (with_reducible first | exact HB.out | apply below_alloc | apply pw_below_drewN | apply below_drew1) | exact HB.out)))); replace aa := Aside0.mk (k3e4e.q aa.out hb rfl); replace HB := Aside0.mk (k3e4e.z HB.out hb rfl rfl rfl rfl); (try clear hb); (try clear ai); (try clear hk); (try clear hi); (try clear ho0)) | ((with_reducible refine gate_callee (f := 10) rfl ?_); refine goesL_ (some 27) rfl rfl Try.func10 (by kernel_rfl) rfl #[.slice A0 l0.length c0] rfl (by (try simp only [List.map_toArray, List.map_cons, List.map_nil]); first | done | rfl) ?_; (with_reducible refine (whirligigref01_Why.calls ak _ _ l0 t401 _ ?side1 ?side2 A11.out).mono ?_); (case side1 => repeat (first | exact (Kd.C_below ap.out HB.out) | (with_reducible refine Kd.C_alloc ?_ _) | (with_reducible refine Kd.C_drewN ?_ _) | (with_reducible refine Kd.C_drew ?_))); (case side2 => exact aq.out); rintro e w18 ⟨rfl, hb⟩; refine ⟨_, rfl, ?_⟩; replace ad := Aside0.mk (Kd.R_below (by (with_reducible repeat (first | apply Kd.R_alloc | apply Kd.R_drewN | apply Kd.R_drew)); exact ad.out) hb); replace aa := Aside0.mk (k3e4e.q aa.out hb rfl); replace HB := Aside0.mk (k3e4e.z HB.out hb rfl rfl rfl rfl); (try clear hb); (try clear ai); (try clear hk); (try clear hi); have hcz19_0 : w18.cell? ⟨ae, 0, none⟩ = some (.int .u32 ab) := (blk_cell aa.out 0).trans rfl; have hcz19_1 : w18.cell? ⟨ae, 1, none⟩ = some (.int .i64 ac) := (blk_cell aa.out 1).trans rfl; have hfz19_0 := blk_frozen aa.out 0; have hfz19_1 := blk_frozen aa.out 1) | ((with_reducible refine gate_callee (f := 15) rfl ?_); refine goesL_ (some 42) rfl rfl Try.func15 (by kernel_rfl) rfl #[.agg #[.int .u32 ab, .int .i64 ac]] rfl (by (try simp only [List.map_toArray, List.map_cons, List.map_nil]); first | done | rfl) ?_; (with_reducible refine (whirligigref01_May.calls ak ab ac true _ A13.out).mono ?_); rintro e w20 ⟨rfl, hb⟩; refine ⟨_, rfl, ?_⟩; replace ad := Aside0.mk (Kd.R_below (by (with_reducible repeat (first | apply Kd.R_alloc | apply Kd.R_drewN | apply Kd.R_drew)); exact ad.out) hb); replace aa := Aside0.mk (k3e4e.q aa.out hb rfl); replace HB := Aside0.mk (k3e4e.z HB.out hb rfl rfl rfl rfl); (try clear hb); (try clear ai); (try clear hk); (try clear hi)))
      (try simp only [Act.put, List.setIfInBounds_toArray, List.set_cons_zero, List.set_cons_succ])
      go_cut [60] (fun v60 wc => ∃ (kq : Nat) (x60_14 : Bool), v60 = .bool x60_14 ∧ Aside0 (whirligiglaw01_AddrMinus.j1 kq l0 a2 t397 x60_14 ab ac = some r) ∧ Aside0 (kq ≤ ak) ∧ Aside0 (Kd.R k30 30 wc w.heap.size (fun k_ => k_ ≠ ae) v398 t397) ∧ Aside0 (wc.heap[ae]? = some (.cells #[.int .u32 ab, .int .i64 ac] 30 (0, 0))) ∧ Aside0 (Below w.heap.size w wc))
      case first =>
       have H := HC15.out
       clear HC15
       by_cases aw : t400 = 0
       ·rw [if_pos aw] at H
        have c21b0 : (t400 == 0) = true := beq_iff_eq.mpr aw
        have c21b1 : (t400 != 0) = false := bne_eq_false_iff_eq.mpr aw
        clear aw
        (first | rw [c21b0] | (simp only [i64_w]; rw [c21b0]) | skip)
        replace H := Option.bind_eq_some_iff.mp H
        obtain ⟨t406, A220, H⟩ := H
        replace H : (whirligiglaw01_AddrMinus.j1 ak l0 a2 t397 (!t406) ab ac) = some r := H
        have A22 := Aside0.mk A220
        clear A220
        have H' := Aside0.mk H
        clear H
        obtain ⟨Ao23, co23, eo23⟩ := Kd.R_slice ad.out
        subst eo23
        go_wp2_with (first | (go_at_call 11; (with_reducible refine (whirligigref01_IsPlain.calls ak _ _ t397 t406 _ ?side1 ?side2 A22.out).mono ?_); (case side1 => repeat (first | exact (Kd.R_reads' ad.out).2.2 | (with_reducible refine Kd.C_alloc ?_ _) | (with_reducible refine Kd.C_drewN ?_ _) | (with_reducible refine Kd.C_drew ?_))); (case side2 => exact (Kd.R_reads' ad.out).2.1); rintro e w24 ⟨rfl, hb⟩; replace ad := Aside0.mk (Kd.R_below (by (with_reducible repeat (first | apply Kd.R_alloc | apply Kd.R_drewN | apply Kd.R_drew)); exact ad.out) hb); replace aa := Aside0.mk (k3e4e.q aa.out hb rfl); replace HB := Aside0.mk (k3e4e.z HB.out hb rfl rfl rfl rfl); (try clear hb); (try clear ai); (try clear hk); (try clear hi)))
        go_meet
        case rel => exact ⟨_, (!t406), (by first | rfl | (simp; done) | (simp [*]; done)), H', ⟨by have := HJ3.out; first | omega | exact Nat.le_refl _⟩, ⟨by (with_reducible repeat (first | apply Kd.R_alloc | apply Kd.R_drewN | apply Kd.R_drew)); exact Kd.R_mono ad.out (fun _ hk => hk.2)⟩, ⟨by (with_reducible repeat (first | refine blk_drewN ?_ _ | refine blk_drew ?_ | refine blk_alloc ?_ _)); exact aa.out⟩, ⟨by repeat (first | (with_reducible first | exact HB.out | apply below_alloc | apply pw_below_drewN | apply below_drew1) | exact HB.out)⟩⟩
       ·rw [if_neg aw] at H
        have c21b0 : (t400 == 0) = false := beq_eq_false_iff_ne.mpr aw
        have c21b1 : (t400 != 0) = true := bne_iff_ne.mpr aw
        (first | rw [c21b0] | (simp only [i64_w]; rw [c21b0]) | skip)
        have H' := Aside0.mk H
        clear H
        go_wp2
        go_meet
        case rel => exact ⟨_, (true), (by first | rfl | (simp; done) | (simp [*]; done)), H', ⟨by have := HJ3.out; first | omega | exact Nat.le_refl _⟩, ⟨by (with_reducible repeat (first | apply Kd.R_alloc | apply Kd.R_drewN | apply Kd.R_drew)); exact Kd.R_mono ad.out (fun _ hk => hk.2)⟩, ⟨by (with_reducible repeat (first | refine blk_drewN ?_ _ | refine blk_drew ?_ | refine blk_alloc ?_ _)); exact aa.out⟩, ⟨by repeat (first | (with_reducible first | exact HB.out | apply below_alloc | apply pw_below_drewN | apply below_drew1) | exact HB.out)⟩⟩
      case rest =>
       clear HC15
       try clear c1
       try clear c2
       try clear p2
       try clear c6
       try clear c6b0
       try clear c6b1
       try clear c7
       try clear c8
       try clear c10
       try clear av
       try clear c12b0
       try clear c12b1
       try clear c14
       try clear c15
       try clear aw
       try clear c21b0
       try clear c21b1
       try clear hcz16_0
       try clear hcz16_1
       try clear hcz19_0
       try clear hcz19_1
       try clear hfz16_0
       try clear hfz16_1
       try clear hfz19_0
       try clear hfz19_1
       try clear p2
       obtain ⟨kq, x60_14, rfl, HA, HJ14, HO_7, aa, HB⟩ := hcut
       cases kq with
       | zero => exact absurd HA.out (by simp [whirligiglaw01_AddrMinus.j1])
       | succ an =>
        have H := HA.out
        clear HA
        simp only [whirligiglaw01_AddrMinus.j1] at H
        by_cases c25 : x60_14 = true
        ·subst c25
         have H1 : (some false) = some r := by rw [if_pos rfl] at H; exact H
         clear H
         have H := H1
         clear H1
         obtain rfl := Option.some.inj H
         go_wp2
         go_ret
         exact ⟨by first | rfl | (simp [errW_none, errW_some] <;> rfl) | (simp [*, errW_none, errW_some] <;> rfl), by repeat (first | (with_reducible first | exact HB.out | apply below_alloc | apply pw_below_drewN | apply below_drew1) | exact HB.out)⟩
        ·replace c25 := Bool.eq_false_iff.mpr c25
         subst c25
         have H1 := H
         rw [if_neg (show ¬ (false = true) by decide)] at H1
         clear H
         have H := H1
         clear H1
         replace H := Option.bind_eq_some_iff.mp H
         obtain ⟨t407, A260, H⟩ := H
         (try dsimp only at H)
         have A26 := Aside0.mk A260
         clear A260
         replace H := Option.bind_eq_some_iff.mp H
         obtain ⟨t410, A270, H⟩ := H
         (try dsimp only at H)
         have A27 := Aside0.mk A270
         clear A270
         by_cases c28 : t407.length + t410.length < 35184372088832
         ·rw [if_pos c28] at H
          have LMc28 := Aside0.mk c28
          clear c28
          obtain ⟨y413, hy413⟩ : ∃ y_ : List Int, y_ = (t407 ++ t410) := ⟨_, rfl⟩
          replace H : ((whirligigref01_Edges.f an (([(⟨ab, ac⟩ : S30)] : List (S30)))).bind fun t419 => (if y413.length + t419.length < 35184372088832 then ((some (y413 ++ t419 : List Int)).bind fun ao => (if ao.length < 35184372088832 then (whirligiglaw01_AddrMinus.l0 an l0 t397 (ao ++ [a2]) 0 ab ac) else (none))) else (none))) = some r := by first | (rw [hy413]; with_reducible exact H) | (have H2_ := (Option.bind_some _ _).symm.trans H; rw [hy413]; with_reducible exact H2_) | (have H2_ := (Option.bind_some _ _).symm.trans H; with_reducible exact H2_) | with_reducible exact H | (rw [hy413]; exact H) | exact H
          have Ny413 := Aside0.mk hy413
          clear hy413
          obtain ⟨y416, hy416⟩ : ∃ y_ : List (S30), y_ = (([(⟨ab, ac⟩ : S30)] : List (S30))) := ⟨_, rfl⟩
          replace H : ((whirligigref01_Edges.f an y416).bind fun t419 => (if y413.length + t419.length < 35184372088832 then ((some (y413 ++ t419 : List Int)).bind fun ao => (if ao.length < 35184372088832 then (whirligiglaw01_AddrMinus.l0 an l0 t397 (ao ++ [a2]) 0 ab ac) else (none))) else (none))) = some r := by first | (rw [hy416]; with_reducible exact H) | (have H2_ := (Option.bind_some _ _).symm.trans H; rw [hy416]; with_reducible exact H2_) | (have H2_ := (Option.bind_some _ _).symm.trans H; with_reducible exact H2_) | with_reducible exact H | (rw [hy416]; exact H) | exact H
          have Ny416 := Aside0.mk hy416
          clear hy416
          replace H := Option.bind_eq_some_iff.mp H
          obtain ⟨t419, A290, H⟩ := H
          (try dsimp only at H)
          have A29 := Aside0.mk A290
          clear A290
          by_cases c30 : y413.length + t419.length < 35184372088832
          ·rw [if_pos c30] at H
           have LMc30 := Aside0.mk c30
           clear c30
           obtain ⟨ao, hy422⟩ : ∃ y_ : List Int, y_ = (y413 ++ t419) := ⟨_, rfl⟩
           replace H : (if ao.length < 35184372088832 then (whirligiglaw01_AddrMinus.l0 an l0 t397 (ao ++ [a2]) 0 ab ac) else (none)) = some r := by first | (rw [hy422]; with_reducible exact H) | (have H2_ := (Option.bind_some _ _).symm.trans H; rw [hy422]; with_reducible exact H2_) | (have H2_ := (Option.bind_some _ _).symm.trans H; with_reducible exact H2_) | with_reducible exact H | (rw [hy422]; exact H) | exact H
           have Ny422 := Aside0.mk hy422
           clear hy422
           by_cases c31 : ao.length < 35184372088832
           ·rw [if_pos c31] at H
            have LMc31 := Aside0.mk c31
            clear c31
            obtain ⟨af, hy425⟩ : ∃ y_ : List Int, y_ = (ao ++ [a2]) := ⟨_, rfl⟩
            replace H : (whirligiglaw01_AddrMinus.l0 an l0 t397 af 0 ab ac) = some r := by first | (rw [hy425]; with_reducible exact H) | (have H2_ := (Option.bind_some _ _).symm.trans H; rw [hy425]; with_reducible exact H2_) | (have H2_ := (Option.bind_some _ _).symm.trans H; with_reducible exact H2_) | with_reducible exact H | (rw [hy425]; exact H) | exact H
            have Ny425 := Aside0.mk hy425
            clear hy425
            have H' := Aside0.mk H
            clear H
            go_wp2_with (first | ((with_reducible refine gate_callee (f := 13) rfl ?_); refine goesL_ (some 62) rfl rfl Try.func13 (by kernel_rfl) rfl #[.slice A0 l0.length c0] rfl (by (try simp only [List.map_toArray, List.map_cons, List.map_nil]); first | done | rfl) ?_; (with_reducible refine (whirligigref01_Edges.calls an _ _ l0 t407 _ ?side1 ?side2 A26.out).mono ?_); (case side1 => repeat (first | exact (Kd.C_below ap.out HB.out) | (with_reducible refine Kd.C_alloc ?_ _) | (with_reducible refine Kd.C_drewN ?_ _) | (with_reducible refine Kd.C_drew ?_))); (case side2 => exact aq.out); rintro e w32 ⟨v408, rfl, ho0, hb⟩; refine ⟨_, rfl, ?_⟩; replace HO_7 := Aside0.mk (Kd.R_below (by (with_reducible repeat (first | apply Kd.R_alloc | apply Kd.R_drewN | apply Kd.R_drew)); exact HO_7.out) hb); have al := Aside0.mk (Kd.R_lower ho0 (below_size (by repeat (first | (with_reducible first | exact HB.out | apply below_alloc | apply pw_below_drewN | apply below_drew1) | exact HB.out)))); replace aa := Aside0.mk (k3e4e.q aa.out hb rfl); replace HB := Aside0.mk (k3e4e.z HB.out hb rfl rfl rfl rfl); (try clear hb); (try clear ai); (try clear hk); (try clear hi); (try clear ho0); obtain ⟨Ao33, co33, eo33⟩ := Kd.R_slice HO_7.out; subst eo33) | ((with_reducible refine gate_callee (f := 13) rfl ?_); refine goesL_ (some 65) rfl rfl Try.func13 (by kernel_rfl) rfl #[.slice Ao33 t397.length co33] rfl (by (try simp only [List.map_toArray, List.map_cons, List.map_nil]); first | done | rfl) ?_; (with_reducible refine (whirligigref01_Edges.calls an _ _ t397 t410 _ ?side1 ?side2 A27.out).mono ?_); (case side1 => repeat (first | exact (Kd.R_reads' HO_7.out).2.2 | (with_reducible refine Kd.C_alloc ?_ _) | (with_reducible refine Kd.C_drewN ?_ _) | (with_reducible refine Kd.C_drew ?_))); (case side2 => exact (Kd.R_reads' HO_7.out).2.1); rintro e w34 ⟨v411, rfl, ho0, hb⟩; refine ⟨_, rfl, ?_⟩; have n0_ := Aside0.mk (Kd.R_below (by (with_reducible repeat (first | apply Kd.R_alloc | apply Kd.R_drewN | apply Kd.R_drew)); exact HO_7.out) hb); have n1_ := Aside0.mk (Kd.R_elder' (by (with_reducible repeat (first | apply Kd.R_alloc | apply Kd.R_drewN | apply Kd.R_drew)); exact al.out) (Kd.R_base ho0) hb); have n2_ := Aside0.mk (Kd.R_lower (Kd.R_new' ho0 (Kd.R_lt (by (with_reducible repeat (first | apply Kd.R_alloc | apply Kd.R_drewN | apply Kd.R_drew)); exact al.out))) (below_size (by repeat (first | (with_reducible first | exact HB.out | apply below_alloc | apply pw_below_drewN | apply below_drew1) | exact HB.out)))); have n3_ := Aside0.mk (k3e4e.q aa.out hb rfl); have n4_ := Aside0.mk (k3e4e.z HB.out hb rfl rfl rfl rfl); clear HO_7; clear al; clear aa; clear HB; have HO_7 := n0_; have al := n1_; have ag := n2_; have aa := n3_; have HB := n4_; clear n0_ n1_ n2_ n3_ n4_; (try clear hb); (try clear ai); (try clear hk); (try clear hi); (try clear ho0); obtain ⟨Ao36, co36, eo36⟩ := Kd.R_slice ag.out; subst eo36) | ((with_reducible refine gate_builtin (b := .append) (xs := #[.tmp 63, .tmp 65]) rfl ?_); (try (refine gate_guard (by rfl) ?_; dsimp only)); at_builtin; refine Kd.R_append_rows (Kd.int .u32) (w0 := w) w.heap.size rfl (.tmp 63) (.tmp 65) 33 23 (.int .u32 0) 4 rfl Try.underlying33 info23 rfl (by decide) (by omega) v408 t407 t410 _ _ _ (fun k_ => some k_ ≠ (.slice Ao36 t410.length co36 : Value).ownBlock) (fun _ => False) rfl rfl ?aO ?aR (fun _ _ h => h) (fun _ h => h.elim) ?aF ?aB ?aS ?aL ?_; (case aR => repeat (first | exact (Kd.R_reads' ag.out).2.2 | (with_reducible refine Kd.C_alloc ?_ _) | (with_reducible refine Kd.C_drewN ?_ _) | (with_reducible refine Kd.C_drew ?_))); (case aB => exact (by repeat (first | (with_reducible first | exact HB.out | apply below_alloc | apply pw_below_drewN | apply below_drew1) | exact HB.out))); (case aF => exact (fun k_ hk => Kd.fresh' (Kd.R_lt (by (with_reducible repeat (first | apply Kd.R_alloc | apply Kd.R_drewN | apply Kd.R_drew)); exact ag.out)) k_ hk)); (case aO => exact (by (with_reducible repeat (first | apply Kd.R_alloc | apply Kd.R_drewN | apply Kd.R_drew)); exact Kd.R_mono al.out (fun _ hk => hk.2))); (case aS => exact (below_size (by repeat (first | (with_reducible first | exact HB.out | apply below_alloc | apply pw_below_drewN | apply below_drew1) | exact HB.out)))); (case aL => have := LMc28.out; omega); intro v414 w35 ho hb hg hat; rw [← Ny413.out] at ho; replace HO_7 := Aside0.mk (Kd.R_over' (by (with_reducible repeat (first | apply Kd.R_alloc | apply Kd.R_drewN | apply Kd.R_drew)); exact HO_7.out) (Kd.R_typed (by (with_reducible repeat (first | apply Kd.R_alloc | apply Kd.R_drewN | apply Kd.R_drew)); exact al.out)) (by decide) hg); replace aa := Aside0.mk (blk_grown (g := ae) (o := .cells #[.int .u32 ab, .int .i64 ac] 30 (0, 0)) (by (with_reducible repeat (first | refine blk_drewN ?_ _ | refine blk_drew ?_ | refine blk_alloc ?_ _)); exact aa.out) hg (Kd.R_ne al.out aa.out (by decide))); replace ag := Aside0.mk (Kd.R_after (ok := (fun _ => True)) (by (with_reducible repeat (first | apply Kd.R_alloc | apply Kd.R_drewN | apply Kd.R_drew)); exact ag.out) hg hat); replace HB := Aside0.mk (hb); have ah := Aside0.mk (ho); clear al; clear ho hb hg hat; have hcz37_0 : w35.cell? ⟨ae, 0, none⟩ = some (.int .u32 ab) := (blk_cell aa.out 0).trans rfl; have hcz37_1 : w35.cell? ⟨ae, 1, none⟩ = some (.int .i64 ac) := (blk_cell aa.out 1).trans rfl; have hfz37_0 := blk_frozen aa.out 0; have hfz37_1 := blk_frozen aa.out 1) | ((with_reducible refine gate_dst (N := 69) rfl ?_); (try (refine gate_guard (by rfl) ?_; dsimp only)); refine Kd.R_lit k30 _ 30 ?hg (N := 69) ?hd (xs := ([(⟨ab, ac⟩ : S30)] : List (S30))) (inner := [.int .u32 ab, .int .i64 ac]) (ok := fun _ => True) (okp := fun _ => True) ?hr ?hp (fun _ hk => hk) trivial (Below.refl _ _) (Nat.le_refl _) (by simp) ?_; (case hd => rfl); (case hg => rfl); (case hr => first | (go_simp; done) | (go_simp; rfl)); (case hp => exact (Reps.c2 (show Kd.M k30 _ _ _ (⟨ab, ac⟩ : S30) [.int .u32 ab, .int .i64 ac] from (k30_mkM _ _ _ (⟨ab, ac⟩ : S30) )) (Reps.none _ _))); intro v417 w38 ho39 hb hg_ hnew_; clear hg_ hnew_; (first | rw [← Ny416.out] at ho39 | (simp only [Int.reduceToNat] at ho39; rw [← Ny416.out] at ho39)); have n0_ := Aside0.mk (Kd.R_elder' (by (with_reducible repeat (first | apply Kd.R_alloc | apply Kd.R_drewN | apply Kd.R_drew)); exact HO_7.out) (Kd.R_base ho39) hb); have n1_ := Aside0.mk (Kd.R_below (by (with_reducible repeat (first | apply Kd.R_alloc | apply Kd.R_drewN | apply Kd.R_drew)); exact ag.out) hb); have n2_ := Aside0.mk (Kd.R_below (by (with_reducible repeat (first | apply Kd.R_alloc | apply Kd.R_drewN | apply Kd.R_drew)); exact ah.out) hb); have n3_ := Aside0.mk (Kd.R_lower (Kd.R_newB (Kd.R_new' ho39 (Kd.R_lt (by (with_reducible repeat (first | apply Kd.R_alloc | apply Kd.R_drewN | apply Kd.R_drew)); exact HO_7.out))) (g := ae) (o := .cells #[.int .u32 ab, .int .i64 ac] 30 (0, 0)) (by (with_reducible repeat (first | refine blk_drewN ?_ _ | refine blk_drew ?_ | refine blk_alloc ?_ _)); exact aa.out)) (below_size (by repeat (first | (with_reducible first | exact HB.out | apply below_alloc | apply pw_below_drewN | apply below_drew1) | exact HB.out)))); have n4_ := Aside0.mk (k3e4e.q aa.out hb rfl); have n5_ := Aside0.mk (k3e4e.z HB.out hb rfl rfl rfl rfl); clear HO_7; clear ag; clear ah; clear aa; clear HB; have HO_7 := n0_; have ag := n1_; have ah := n2_; have aj := n3_; have aa := n4_; have HB := n5_; clear n0_ n1_ n2_ n3_ n4_ n5_; clear hb ho39; obtain ⟨Ao40, co40, eo40⟩ := Kd.R_slice aj.out; subst eo40) | ((with_reducible refine gate_callee (f := 13) rfl ?_); refine goesL_ (some 70) rfl rfl Try.func13 (by kernel_rfl) rfl #[.slice Ao40 y416.length co40] rfl (by (try simp only [List.map_toArray, List.map_cons, List.map_nil]); first | done | rfl) ?_; (with_reducible refine (whirligigref01_Edges.calls an _ _ y416 t419 _ ?side1 ?side2 A29.out).mono ?_); (case side1 => repeat (first | exact (Kd.R_reads' aj.out).2.2 | (with_reducible refine Kd.C_alloc ?_ _) | (with_reducible refine Kd.C_drewN ?_ _) | (with_reducible refine Kd.C_drew ?_))); (case side2 => exact (Kd.R_reads' aj.out).2.1); rintro e w41 ⟨v420, rfl, ho0, hb⟩; refine ⟨_, rfl, ?_⟩; have n0_ := Aside0.mk (Kd.R_below (by (with_reducible repeat (first | apply Kd.R_alloc | apply Kd.R_drewN | apply Kd.R_drew)); exact HO_7.out) hb); have n1_ := Aside0.mk (Kd.R_elder' (by (with_reducible repeat (first | apply Kd.R_alloc | apply Kd.R_drewN | apply Kd.R_drew)); exact ag.out) (Kd.R_base ho0) hb); have n2_ := Aside0.mk (Kd.R_elder' (by (with_reducible repeat (first | apply Kd.R_alloc | apply Kd.R_drewN | apply Kd.R_drew)); exact ah.out) (Kd.R_base ho0) hb); have n3_ := Aside0.mk (Kd.R_below (by (with_reducible repeat (first | apply Kd.R_alloc | apply Kd.R_drewN | apply Kd.R_drew)); exact aj.out) hb); have n4_ := Aside0.mk (Kd.R_lower (Kd.R_new' (Kd.R_new' ho0 (Kd.R_lt (by (with_reducible repeat (first | apply Kd.R_alloc | apply Kd.R_drewN | apply Kd.R_drew)); exact ag.out))) (Kd.R_lt (by (with_reducible repeat (first | apply Kd.R_alloc | apply Kd.R_drewN | apply Kd.R_drew)); exact ah.out))) (below_size (by repeat (first | (with_reducible first | exact HB.out | apply below_alloc | apply pw_below_drewN | apply below_drew1) | exact HB.out)))); have n5_ := Aside0.mk (k3e4e.q aa.out hb rfl); have n6_ := Aside0.mk (k3e4e.z HB.out hb rfl rfl rfl rfl); clear HO_7; clear ag; clear ah; clear aj; clear aa; clear HB; have HO_7 := n0_; have ag := n1_; have ah := n2_; have aj := n3_; have am := n4_; have aa := n5_; have HB := n6_; clear n0_ n1_ n2_ n3_ n4_ n5_ n6_; (try clear hb); (try clear ai); (try clear hk); (try clear hi); (try clear ho0); obtain ⟨Ao43, co43, eo43⟩ := Kd.R_slice am.out; subst eo43) | ((with_reducible refine gate_builtin (b := .append) (xs := #[.tmp 67, .tmp 70]) rfl ?_); (try (refine gate_guard (by rfl) ?_; dsimp only)); at_builtin; refine Kd.R_append_rows (Kd.int .u32) (w0 := w) w.heap.size rfl (.tmp 67) (.tmp 70) 33 23 (.int .u32 0) 4 rfl Try.underlying33 info23 rfl (by decide) (by omega) v414 y413 t419 _ _ _ (fun k_ => some k_ ≠ (.slice Ao36 t410.length co36 : Value).ownBlock ∧ some k_ ≠ (.slice Ao43 t419.length co43 : Value).ownBlock) (fun _ => False) rfl rfl ?aO ?aR (fun _ _ h => h) (fun _ h => h.elim) ?aF ?aB ?aS ?aL ?_; (case aR => repeat (first | exact (Kd.R_reads' am.out).2.2 | (with_reducible refine Kd.C_alloc ?_ _) | (with_reducible refine Kd.C_drewN ?_ _) | (with_reducible refine Kd.C_drew ?_))); (case aB => exact (by repeat (first | (with_reducible first | exact HB.out | apply below_alloc | apply pw_below_drewN | apply below_drew1) | exact HB.out))); (case aF => exact (fun k_ hk => ⟨Kd.fresh' (Kd.R_lt (by (with_reducible repeat (first | apply Kd.R_alloc | apply Kd.R_drewN | apply Kd.R_drew)); exact ag.out)) k_ hk, Kd.fresh' (Kd.R_lt (by (with_reducible repeat (first | apply Kd.R_alloc | apply Kd.R_drewN | apply Kd.R_drew)); exact am.out)) k_ hk⟩)); (case aO => exact (by (with_reducible repeat (first | apply Kd.R_alloc | apply Kd.R_drewN | apply Kd.R_drew)); exact ah.out)); (case aS => exact (below_size (by repeat (first | (with_reducible first | exact HB.out | apply below_alloc | apply pw_below_drewN | apply below_drew1) | exact HB.out)))); (case aL => have := LMc30.out; omega); intro v423 w42 ho hb hg hat; rw [← Ny422.out] at ho; replace HO_7 := Aside0.mk (Kd.R_over' (by (with_reducible repeat (first | apply Kd.R_alloc | apply Kd.R_drewN | apply Kd.R_drew)); exact HO_7.out) (Kd.R_typed (by (with_reducible repeat (first | apply Kd.R_alloc | apply Kd.R_drewN | apply Kd.R_drew)); exact ah.out)) (by decide) hg); replace aa := Aside0.mk (blk_grown (g := ae) (o := .cells #[.int .u32 ab, .int .i64 ac] 30 (0, 0)) (by (with_reducible repeat (first | refine blk_drewN ?_ _ | refine blk_drew ?_ | refine blk_alloc ?_ _)); exact aa.out) hg (Kd.R_ne ah.out aa.out (by decide))); replace ag := Aside0.mk (Kd.R_after (ok := (fun k_ => some k_ ≠ (.slice Ao43 t419.length co43 : Value).ownBlock)) (by (with_reducible repeat (first | apply Kd.R_alloc | apply Kd.R_drewN | apply Kd.R_drew)); exact Kd.R_mono ag.out (fun _ hk => ⟨hk.2, hk.1.2⟩)) hg hat); replace aj := Aside0.mk (Kd.R_over' (by (with_reducible repeat (first | apply Kd.R_alloc | apply Kd.R_drewN | apply Kd.R_drew)); exact aj.out) (Kd.R_typed (by (with_reducible repeat (first | apply Kd.R_alloc | apply Kd.R_drewN | apply Kd.R_drew)); exact ah.out)) (by decide) hg); replace am := Aside0.mk (Kd.R_after (ok := (fun k_ => some k_ ≠ (.slice Ao36 t410.length co36 : Value).ownBlock)) (by (with_reducible repeat (first | apply Kd.R_alloc | apply Kd.R_drewN | apply Kd.R_drew)); exact Kd.R_mono am.out (fun _ hk => ⟨hk.1.2, hk.2⟩)) hg hat); replace HB := Aside0.mk (hb); have HO424 := Aside0.mk (ho); clear ah; clear ho hb hg hat) | ((with_reducible refine gate_builtin (b := .append) (xs := #[.tmp 72, .tmp 74]) rfl ?_); (try (refine gate_guard (by rfl) ?_; dsimp only)); at_builtin; refine Kd.R_append (Kd.int .u32) (w0 := w) w.heap.size rfl (.tmp 72) (.tmp 74) 33 23 (.int .u32 0) 4 rfl Try.underlying33 info23 rfl (by decide) (by omega) v423 ao a2 [.int .u32 a2] (fun k_ => some k_ ≠ (.slice Ao36 t410.length co36 : Value).ownBlock ∧ some k_ ≠ (.slice Ao43 t419.length co43 : Value).ownBlock) (fun _ => False) rfl rfl ?aP (fun _ hk => hk.elim) ?aF ?aO ?aB ?aS ?aL ?_; (case aP => exact rfl); (case aB => exact (by repeat (first | (with_reducible first | exact HB.out | apply below_alloc | apply pw_below_drewN | apply below_drew1) | exact HB.out))); (case aF => exact (fun k_ hk => ⟨Kd.fresh' (Kd.R_lt (by (with_reducible repeat (first | apply Kd.R_alloc | apply Kd.R_drewN | apply Kd.R_drew)); exact ag.out)) k_ hk, Kd.fresh' (Kd.R_lt (by (with_reducible repeat (first | apply Kd.R_alloc | apply Kd.R_drewN | apply Kd.R_drew)); exact am.out)) k_ hk⟩)); (case aO => exact (by (with_reducible repeat (first | apply Kd.R_alloc | apply Kd.R_drewN | apply Kd.R_drew)); exact HO424.out)); (case aS => exact (below_size (by repeat (first | (with_reducible first | exact HB.out | apply below_alloc | apply pw_below_drewN | apply below_drew1) | exact HB.out)))); (case aL => have := LMc31.out; omega); intro v426 w44 ho hb hg hat; rw [← Ny425.out] at ho; replace HO_7 := Aside0.mk (Kd.R_over' (by (with_reducible repeat (first | apply Kd.R_alloc | apply Kd.R_drewN | apply Kd.R_drew)); exact HO_7.out) (Kd.R_typed (by (with_reducible repeat (first | apply Kd.R_alloc | apply Kd.R_drewN | apply Kd.R_drew)); exact HO424.out)) (by decide) hg); replace aa := Aside0.mk (blk_grown (g := ae) (o := .cells #[.int .u32 ab, .int .i64 ac] 30 (0, 0)) (by (with_reducible repeat (first | refine blk_drewN ?_ _ | refine blk_drew ?_ | refine blk_alloc ?_ _)); exact aa.out) hg (Kd.R_ne HO424.out aa.out (by decide))); replace ag := Aside0.mk (Kd.R_after (ok := (fun k_ => some k_ ≠ (.slice Ao43 t419.length co43 : Value).ownBlock)) (by (with_reducible repeat (first | apply Kd.R_alloc | apply Kd.R_drewN | apply Kd.R_drew)); exact ag.out) hg hat); replace aj := Aside0.mk (Kd.R_over' (by (with_reducible repeat (first | apply Kd.R_alloc | apply Kd.R_drewN | apply Kd.R_drew)); exact aj.out) (Kd.R_typed (by (with_reducible repeat (first | apply Kd.R_alloc | apply Kd.R_drewN | apply Kd.R_drew)); exact HO424.out)) (by decide) hg); replace am := Aside0.mk (Kd.R_after (ok := (fun k_ => some k_ ≠ (.slice Ao36 t410.length co36 : Value).ownBlock)) (by (with_reducible repeat (first | apply Kd.R_alloc | apply Kd.R_drewN | apply Kd.R_drew)); exact am.out) hg hat); replace HB := Aside0.mk (hb); have HO427 := Aside0.mk (ho); clear HO424; clear ho hb hg hat))
            go_loopg [10] an (fun kq v10 w' => ∃ (x10_3 : Int), v10 = .int .i64 x10_3 ∧ Aside0 (whirligiglaw01_AddrMinus.l0 kq l0 t397 af x10_3 ab ac = some r) ∧ Aside0 (kq ≤ an) ∧ Aside0 (Kd.R k30 30 w' w.heap.size (fun k_ => k_ ≠ ae) (.slice Ao33 t397.length co33) t397) ∧ Aside0 (Kd.R (Kd.int .u32) 23 w' w.heap.size (fun _ => True) v426 af) ∧ Aside0 (w'.heap[ae]? = some (.cells #[.int .u32 ab, .int .i64 ac] 30 (0, 0))) ∧ Aside0 (Below w.heap.size w w'))
            case atStart => exact ⟨(0), (by first | rfl | (simp; done) | (simp [*]; done)), H', ⟨Nat.le_refl _⟩, ⟨by (with_reducible repeat (first | apply Kd.R_alloc | apply Kd.R_drewN | apply Kd.R_drew)); exact Kd.R_mono HO_7.out (fun _ hk => hk.1)⟩, ⟨by (with_reducible repeat (first | apply Kd.R_alloc | apply Kd.R_drewN | apply Kd.R_drew)); exact Kd.R_mono HO427.out (fun _ hk => trivial)⟩, ⟨by (with_reducible repeat (first | refine blk_drewN ?_ _ | refine blk_drew ?_ | refine blk_alloc ?_ _)); exact aa.out⟩, ⟨by repeat (first | (with_reducible first | exact HB.out | apply below_alloc | apply pw_below_drewN | apply below_drew1) | exact HB.out)⟩⟩
            case round =>
             clear H'
             try clear c1
             try clear c2
             try clear p2
             try clear c3
             try clear c6
             try clear c6b0
             try clear c6b1
             try clear c7
             try clear c8
             try clear c10
             try clear av
             try clear c12b0
             try clear c12b1
             try clear c13
             try clear c14
             try clear c15
             try clear aw
             try clear c21b0
             try clear c21b1
             try clear c25
             try clear c28
             try clear c30
             try clear c31
             try clear hcz16_0
             try clear hcz16_1
             try clear hcz19_0
             try clear hcz19_1
             try clear hcz37_0
             try clear hcz37_1
             try clear hfz16_0
             try clear hfz16_1
             try clear hfz19_0
             try clear hfz19_1
             try clear hfz37_0
             try clear hfz37_1
             try clear p2
             obtain ⟨x10_3, rfl, HA, HK3, HO_7, HO_9, aa, HB⟩ := hrel
             cases gk with
             | zero => exact absurd HA.out (by simp [whirligiglaw01_AddrMinus.l0])
             | succ k3 =>
              have H := HA.out
              clear HA
              simp only [whirligiglaw01_AddrMinus.l0] at H
              by_cases c45 : x10_3 < (af.length : Int)
              ·rw [if_pos c45] at H
               have c45b0 : decide (x10_3 < (af.length : Int)) = true := decide_eq_true c45
               clear c45
               by_cases c46 : 0 ≤ x10_3
               ·rw [if_pos c46] at H
                have c46b0 : decide (0 ≤ x10_3) = true := decide_eq_true c46
                clear c46
                replace H := Option.bind_eq_some_iff.mp H
                obtain ⟨t430, A470, H⟩ := H
                (try dsimp only at H)
                have A47 := Aside0.mk A470
                clear A470
                replace H := Option.bind_eq_some_iff.mp H
                obtain ⟨t432, A480, H⟩ := H
                (try dsimp only at H)
                have A48 := Aside0.mk A480
                clear A480
                by_cases c49 : t432 = true
                ·subst c49
                 have H1 := H
                 rw [if_pos rfl] at H1
                 clear H
                 have H := H1
                 clear H1
                 replace H := Option.bind_eq_some_iff.mp H
                 obtain ⟨t434, A500, H⟩ := H
                 (try dsimp only at H)
                 have A50 := Aside0.mk A500
                 clear A500
                 by_cases ar : (t430 != (!t434)) = true
                 ·rw [if_pos ar] at H
                  have c51b0 : (t430 != (!t434)) = true := ar
                  try (have c51b08 : (!(t430 == !t434)) = true := c51b0)
                  try (have c51b07 : (t430 == t434) = true := by (have h := c51b0); revert h; generalize t430 = p; generalize t434 = q; cases p <;> cases q <;> decide)
                  (try (have c51b1 : decide (t430 = (!t434)) = false := by simpa using ar))
                  (try (have c51b2 : (t430 == (!t434)) = false := by simpa using ar))
                  (try (have c51b3 : ¬ (t430 = (!t434)) := by simpa using ar))
                  clear ar
                  obtain rfl := Option.some.inj H
                  obtain ⟨Ao52, co52, eo52⟩ := Kd.R_slice HO_9.out
                  subst eo52
                  try go_wp2
                  replace HO_7 := Aside0.mk (Kd.R_drew HO_7.out)
                  replace HO_9 := Aside0.mk (Kd.R_drew HO_9.out)
                  replace aa := Aside0.mk (blk_drew aa.out)
                  replace HB := Aside0.mk (below_drew1 HB.out)
                  have p429 : 0 ≤ (x10_3 : Int) := of_decide_eq_true (by first | (with_reducible assumption) | assumption)
                  have q429 : x10_3 < (af.length : Int) := of_decide_eq_true (by first | (with_reducible assumption) | assumption)
                  obtain ⟨ad429, e429, hx429_0⟩ := Kd.at_int (Kd.R_reads' HO_9.out).2.2 x10_3 p429 q429
                  cases e429
                  replace p429 := eq_true p429
                  replace q429 := eq_true q429
                  have p431 : 0 ≤ (x10_3 : Int) := of_decide_eq_true (by first | (with_reducible assumption) | assumption)
                  have q431 : x10_3 < (af.length : Int) := of_decide_eq_true (by first | (with_reducible assumption) | assumption)
                  obtain ⟨ad431, e431, hx431_0⟩ := Kd.at_int (Kd.R_reads' HO_9.out).2.2 x10_3 p431 q431
                  obtain rfl : ad429 = ad431 := (by injection e431)
                  replace p431 := eq_true p431
                  replace q431 := eq_true q431
                  have p433 : 0 ≤ (x10_3 : Int) := of_decide_eq_true (by first | (with_reducible assumption) | assumption)
                  have q433 : x10_3 < (af.length : Int) := of_decide_eq_true (by first | (with_reducible assumption) | assumption)
                  obtain ⟨ad433, e433, hx433_0⟩ := Kd.at_int (Kd.R_reads' HO_9.out).2.2 x10_3 p433 q433
                  obtain rfl : ad429 = ad433 := (by injection e433)
                  replace p433 := eq_true p433
                  replace q433 := eq_true q433
                  refine start_ (n := 22) (S := fun w' => w'.cell? ⟨ae, 0, none⟩ = some (.int .u32 ab) ∧ w'.cell? ⟨ae, 1, none⟩ = some (.int .i64 ac) ∧ w'.cell? (ad429.add (x10_3).toNat) = some (.int .u32 (rd af x10_3)) ∧ w'.cell? (ad429.add (x10_3).toNat) = some (.int .u32 (rd af x10_3)) ∧ w'.cell? (ad429.add (x10_3).toNat) = some (.int .u32 (rd af x10_3))) (ds := []) #[false, false, false, false, false, false, false, false, false, false, false, false, false, false, false, false, false, false, false, false, false, false] (by kernel_rfl) rfl rfl (k3e4e.b2 aa.out ⟨hx429_0, ⟨hx431_0, hx433_0⟩⟩) (fun hHeld => ?_); refine with_tabW whirligiglaw01_AddrMinus.tab17 whirligiglaw01_AddrMinus.bits17 (fun HT_ HW_ => ?_)
                  generalize wr.drew = w53 at HO_7 HO_9 aa HB hx429_0 hx431_0 hx433_0 hHeld ⊢
                  refine pure_ (i := 0) (N := some 82) (v := ?_) (a' := ?_) #[true, false, false, false, false, false, false, false, false, false, false, false, false, false, false, false, false, false, false, false, false, false] rfl rfl (any_of HT_.out (by kernel_rfl)) (fun _ _ _ h => h) (Or.inl ⟨by rfl, ?_⟩) ?_ ?_
                  rotate_left
                  ·intro w'
                   go_simp
                   with_reducible rfl
                  rotate_left
                  ·simp only [Act.put, List.setIfInBounds_toArray, List.set_cons_zero, List.set_cons_succ, i64_w]
                   rfl
                  refine pure_ (i := 1) (N := some 83) (v := ?_) (a' := ?_) #[true, true, false, false, false, false, false, false, false, false, false, false, false, false, false, false, false, false, false, false, false, false] rfl rfl (any_of HT_.out (by kernel_rfl)) (fun _ _ _ h => h) (Or.inl ⟨by rfl, ?_⟩) ?_ ?_
                  rotate_left
                  ·intro w'
                   go_simp
                   with_reducible rfl
                  rotate_left
                  ·simp only [Act.put, List.setIfInBounds_toArray, List.set_cons_zero, List.set_cons_succ, i64_w]
                   rfl
                  refine pure_ (i := 2) (N := some 84) (v := ?_) (a' := ?_) #[true, true, true, false, false, false, false, false, false, false, false, false, false, false, false, false, false, false, false, false, false, false] rfl rfl (any_of HT_.out (by kernel_rfl)) (fun _ _ _ h => h) (Or.inl ⟨by rfl, ?_⟩) ?_ ?_
                  rotate_left
                  ·intro w'
                   go_simp
                   with_reducible rfl
                  rotate_left
                  ·simp only [Act.put, List.setIfInBounds_toArray, List.set_cons_zero, List.set_cons_succ, i64_w]
                   rfl
                  refine pure_ (i := 3) (N := some 85) (v := ?_) (a' := ?_) #[true, true, true, true, false, false, false, false, false, false, false, false, false, false, false, false, false, false, false, false, false, false] rfl rfl (any_of HT_.out (by kernel_rfl)) (fun _ _ _ h => h) (Or.inl ⟨by rfl, ?_⟩) ?_ ?_
                  rotate_left
                  ·intro w'
                   go_simp
                   with_reducible rfl
                  rotate_left
                  ·simp only [Act.put, List.setIfInBounds_toArray, List.set_cons_zero, List.set_cons_succ, i64_w]
                   rfl
                  refine pure_ (i := 6) (N := some 88) (v := ?_) (a' := ?_) #[true, true, true, true, false, false, true, false, false, false, false, false, false, false, false, false, false, false, false, false, false, false] rfl rfl (any_of HT_.out (by kernel_rfl)) (fun _ _ _ h => h) (Or.inl ⟨by rfl, ?_⟩) ?_ ?_
                  rotate_left
                  ·intro w'
                   go_simp
                   with_reducible rfl
                  rotate_left
                  ·simp only [Act.put, List.setIfInBounds_toArray, List.set_cons_zero, List.set_cons_succ, i64_w]
                   rfl
                  refine pure_ (i := 7) (N := some 89) (v := ?_) (a' := ?_) #[true, true, true, true, false, false, true, true, false, false, false, false, false, false, false, false, false, false, false, false, false, false] rfl rfl (any_of HT_.out (by kernel_rfl)) (fun _ _ _ h => h) (Or.inl ⟨by rfl, ?_⟩) ?_ ?_
                  rotate_left
                  ·intro w'
                   go_simp
                   with_reducible rfl
                  rotate_left
                  ·simp only [Act.put, List.setIfInBounds_toArray, List.set_cons_zero, List.set_cons_succ, i64_w]
                   rfl
                  refine pure_ (i := 8) (N := some 90) (v := ?_) (a' := ?_) #[true, true, true, true, false, false, true, true, true, false, false, false, false, false, false, false, false, false, false, false, false, false] rfl rfl (any_of HT_.out (by kernel_rfl)) (fun _ _ _ h => h) (Or.inl ⟨by rfl, ?_⟩) ?_ ?_
                  rotate_left
                  ·intro w'
                   go_simp
                   with_reducible rfl
                  rotate_left
                  ·simp only [Act.put, List.setIfInBounds_toArray, List.set_cons_zero, List.set_cons_succ, i64_w]
                   rfl
                  refine pure_ (i := 9) (N := some 91) (v := ?_) (a' := ?_) #[true, true, true, true, false, false, true, true, true, true, false, false, false, false, false, false, false, false, false, false, false, false] rfl rfl (any_of HT_.out (by kernel_rfl)) (fun _ _ _ h => h) (Or.inl ⟨by rfl, ?_⟩) ?_ ?_
                  rotate_left
                  ·intro w'
                   go_simp
                   with_reducible rfl
                  rotate_left
                  ·simp only [Act.put, List.setIfInBounds_toArray, List.set_cons_zero, List.set_cons_succ, i64_w]
                   rfl
                  refine take_ (i := 4) (N := some 86) (v := ?_) (a' := ?_) #[true, true, true, true, true, false, true, true, true, true, false, false, false, false, false, false, false, false, false, false, false, false] rfl rfl (take_ofW HT_.out HW_.out (by kernel_rfl)) (fun _ _ _ h => h) (Or.inl ⟨by rfl, ?_⟩) hHeld ?_ ?_
                  rotate_left
                  ·rintro w' ⟨s0, s1, s2, s3, s4⟩
                   go_simp
                   with_reducible rfl
                  rotate_left
                  ·simp only [Act.put, List.setIfInBounds_toArray, List.set_cons_zero, List.set_cons_succ, i64_w]
                   rfl
                  refine take_ (i := 10) (N := some 92) (v := ?_) (a' := ?_) #[true, true, true, true, true, false, true, true, true, true, true, false, false, false, false, false, false, false, false, false, false, false] rfl rfl (take_ofW HT_.out HW_.out (by kernel_rfl)) (fun _ _ _ h => h) (Or.inl ⟨by rfl, ?_⟩) hHeld ?_ ?_
                  rotate_left
                  ·rintro w' ⟨s0, s1, s2, s3, s4⟩
                   go_simp
                   with_reducible rfl
                  rotate_left
                  ·simp only [Act.put, List.setIfInBounds_toArray, List.set_cons_zero, List.set_cons_succ, i64_w]
                   rfl
                  refine one_ (i := 5) (N := some 87) #[true, true, true, true, true, true, true, true, true, true, true, false, false, false, false, false, false, false, false, false, false, false] rfl rfl (one_of HT_.out (by kernel_rfl)) (by decide) (fun K hK => ?_)
                  refine goes_ Try.func14 (by kernel_rfl) rfl #[.slice Ao33 t397.length co33, .int .u32 (rd af x10_3)] (by rfl) rfl rfl (by (try simp only [List.map_toArray, List.map_cons, List.map_nil]); first | done | rfl) ?_
                  with_reducible refine (whirligigref01_In.calls k3 _ _ t397 (rd af x10_3) t430 _ ?side1 ?side2 A47.out).mono ?_
                  (case side1 => repeat (first | exact (Kd.R_reads' HO_7.out).2.2 | (with_reducible refine Kd.C_alloc ?_ _) | (with_reducible refine Kd.C_drewN ?_ _) | (with_reducible refine Kd.C_drew ?_)))
                  (case side2 => exact (Kd.R_reads' HO_7.out).2.1)
                  rintro e w54 ⟨rfl, hb⟩
                  have HS2_ := (hb.cell (World.block_lt_of_cell? _ _ (hHeld.2.2.1))).trans (hHeld.2.2.1)
                  have HS3_ := (hb.cell (World.block_lt_of_cell? _ _ (hHeld.2.2.2.1))).trans (hHeld.2.2.2.1)
                  have HS4_ := (hb.cell (World.block_lt_of_cell? _ _ (hHeld.2.2.2.2))).trans (hHeld.2.2.2.2)
                  refine ⟨_, rfl, ?_⟩
                  replace HO_7 := Aside0.mk (Kd.R_below (by (with_reducible repeat (first | apply Kd.R_alloc | apply Kd.R_drewN | apply Kd.R_drew)); exact HO_7.out) hb)
                  replace HO_9 := Aside0.mk (Kd.R_below (by (with_reducible repeat (first | apply Kd.R_alloc | apply Kd.R_drewN | apply Kd.R_drew)); exact HO_9.out) hb)
                  replace aa := Aside0.mk (k3e4e.q aa.out hb rfl)
                  replace HB := Aside0.mk (k3e4e.z HB.out hb rfl rfl rfl rfl)
                  (try clear hb)
                  (try clear ai)
                  (try clear hk)
                  (try clear hi)
                  refine hK.out _ _ (k3e4e.b2 aa.out ⟨HS2_, ⟨HS3_, HS4_⟩⟩) (fun hHeld => ?_)
                  clear hK K
                  refine norm_ (a' := ?_) ?_ ?_
                  rotate_left
                  ·show Act.put _ (some 87) _ = _
                   simp only [Act.put, List.setIfInBounds_toArray, List.set_cons_zero, List.set_cons_succ, i64_w]
                   rfl
                  refine one_ (i := 11) (N := some 93) #[true, true, true, true, true, true, true, true, true, true, true, true, false, false, false, false, false, false, false, false, false, false] rfl rfl (one_of HT_.out (by kernel_rfl)) (by decide) (fun K hK => ?_)
                  refine goes_ Try.func14 (by kernel_rfl) rfl #[.slice A0 l0.length c0, .int .u32 (rd af x10_3)] (by rfl) rfl rfl (by (try simp only [List.map_toArray, List.map_cons, List.map_nil]); first | done | rfl) ?_
                  with_reducible refine (whirligigref01_In.calls k3 _ _ l0 (rd af x10_3) true _ ?side1 ?side2 A48.out).mono ?_
                  (case side1 => repeat (first | exact (Kd.C_below ap.out HB.out) | (with_reducible refine Kd.C_alloc ?_ _) | (with_reducible refine Kd.C_drewN ?_ _) | (with_reducible refine Kd.C_drew ?_)))
                  (case side2 => exact aq.out)
                  rintro e w55 ⟨rfl, hb⟩
                  have HS2_ := (hb.cell (World.block_lt_of_cell? _ _ (hHeld.2.2.1))).trans (hHeld.2.2.1)
                  have HS3_ := (hb.cell (World.block_lt_of_cell? _ _ (hHeld.2.2.2.1))).trans (hHeld.2.2.2.1)
                  have HS4_ := (hb.cell (World.block_lt_of_cell? _ _ (hHeld.2.2.2.2))).trans (hHeld.2.2.2.2)
                  refine ⟨_, rfl, ?_⟩
                  replace HO_7 := Aside0.mk (Kd.R_below (by (with_reducible repeat (first | apply Kd.R_alloc | apply Kd.R_drewN | apply Kd.R_drew)); exact HO_7.out) hb)
                  replace HO_9 := Aside0.mk (Kd.R_below (by (with_reducible repeat (first | apply Kd.R_alloc | apply Kd.R_drewN | apply Kd.R_drew)); exact HO_9.out) hb)
                  replace aa := Aside0.mk (k3e4e.q aa.out hb rfl)
                  replace HB := Aside0.mk (k3e4e.z HB.out hb rfl rfl rfl rfl)
                  (try clear hb)
                  (try clear ai)
                  (try clear hk)
                  (try clear hi)
                  refine hK.out _ _ (k3e4e.b2 aa.out ⟨HS2_, ⟨HS3_, HS4_⟩⟩) (fun hHeld => ?_)
                  clear hK K
                  refine norm_ (a' := ?_) ?_ ?_
                  rotate_left
                  ·show Act.put _ (some 93) _ = _
                   simp only [Act.put, List.setIfInBounds_toArray, List.set_cons_zero, List.set_cons_succ, i64_w]
                   rfl
                  refine pure_ (i := 12) (N := some 94) (v := ?_) (a' := ?_) #[true, true, true, true, true, true, true, true, true, true, true, true, true, false, false, false, false, false, false, false, false, false] rfl rfl (any_of HT_.out (by kernel_rfl)) (fun _ _ _ h => h) (Or.inl ⟨by rfl, ?_⟩) ?_ ?_
                  rotate_left
                  ·intro w'
                   go_simp
                   with_reducible rfl
                  rotate_left
                  ·simp only [Act.put, List.setIfInBounds_toArray, List.set_cons_zero, List.set_cons_succ, i64_w]
                   rfl
                  refine pure_ (i := 14) (N := some 96) (v := ?_) (a' := ?_) #[true, true, true, true, true, true, true, true, true, true, true, true, true, false, true, false, false, false, false, false, false, false] rfl rfl (any_of HT_.out (by kernel_rfl)) (fun _ _ _ h => h) (Or.inl ⟨by rfl, ?_⟩) ?_ ?_
                  rotate_left
                  ·intro w'
                   go_simp
                   with_reducible rfl
                  rotate_left
                  ·simp only [Act.put, List.setIfInBounds_toArray, List.set_cons_zero, List.set_cons_succ, i64_w]
                   rfl
                  refine pure_ (i := 15) (N := some 97) (v := ?_) (a' := ?_) #[true, true, true, true, true, true, true, true, true, true, true, true, true, false, true, true, false, false, false, false, false, false] rfl rfl (any_of HT_.out (by kernel_rfl)) (fun _ _ _ h => h) (Or.inl ⟨by rfl, ?_⟩) ?_ ?_
                  rotate_left
                  ·intro w'
                   go_simp
                   with_reducible rfl
                  rotate_left
                  ·simp only [Act.put, List.setIfInBounds_toArray, List.set_cons_zero, List.set_cons_succ, i64_w]
                   rfl
                  refine pure_ (i := 16) (N := some 98) (v := ?_) (a' := ?_) #[true, true, true, true, true, true, true, true, true, true, true, true, true, false, true, true, true, false, false, false, false, false] rfl rfl (any_of HT_.out (by kernel_rfl)) (fun _ _ _ h => h) (Or.inl ⟨by rfl, ?_⟩) ?_ ?_
                  rotate_left
                  ·intro w'
                   go_simp
                   with_reducible rfl
                  rotate_left
                  ·simp only [Act.put, List.setIfInBounds_toArray, List.set_cons_zero, List.set_cons_succ, i64_w]
                   rfl
                  refine take_ (i := 13) (N := some 95) (v := ?_) (a' := ?_) #[true, true, true, true, true, true, true, true, true, true, true, true, true, true, true, true, true, false, false, false, false, false] rfl rfl (take_ofW HT_.out HW_.out (by kernel_rfl)) (fun _ _ _ h => h) (Or.inl ⟨by rfl, ?_⟩) hHeld ?_ ?_
                  rotate_left
                  ·rintro w' ⟨s0, s1, s2, s3, s4⟩
                   go_simp
                   with_reducible rfl
                  rotate_left
                  ·simp only [Act.put, List.setIfInBounds_toArray, List.set_cons_zero, List.set_cons_succ, i64_w]
                   rfl
                  refine take_ (i := 17) (N := some 99) (v := ?_) (a' := ?_) #[true, true, true, true, true, true, true, true, true, true, true, true, true, true, true, true, true, true, false, false, false, false] rfl rfl (take_ofW HT_.out HW_.out (by kernel_rfl)) (fun _ _ _ h => h) (Or.inl ⟨by rfl, ?_⟩) hHeld ?_ ?_
                  rotate_left
                  ·rintro w' ⟨s0, s1, s2, s3, s4⟩
                   go_simp
                   with_reducible rfl
                  rotate_left
                  ·simp only [Act.put, List.setIfInBounds_toArray, List.set_cons_zero, List.set_cons_succ, i64_w]
                   rfl
                  refine one_ (i := 18) (N := some 100) #[true, true, true, true, true, true, true, true, true, true, true, true, true, true, true, true, true, true, true, false, false, false] rfl rfl (one_of HT_.out (by kernel_rfl)) (by decide) (fun K hK => ?_)
                  refine goes_ Try.func18 (by kernel_rfl) rfl #[.agg #[.int .u32 ab, .int .i64 ac], .int .u32 (rd af x10_3)] (by rfl) rfl rfl (by (try simp only [List.map_toArray, List.map_cons, List.map_nil]); first | done | rfl) ?_
                  with_reducible refine (whirligigref01_Has.calls k3 ab ac (rd af x10_3) t434 _ A50.out).mono ?_
                  rintro e w56 ⟨rfl, hb⟩
                  have HS2_ := (hb.cell (World.block_lt_of_cell? _ _ (hHeld.2.2.1))).trans (hHeld.2.2.1)
                  have HS3_ := (hb.cell (World.block_lt_of_cell? _ _ (hHeld.2.2.2.1))).trans (hHeld.2.2.2.1)
                  have HS4_ := (hb.cell (World.block_lt_of_cell? _ _ (hHeld.2.2.2.2))).trans (hHeld.2.2.2.2)
                  refine ⟨_, rfl, ?_⟩
                  replace HO_7 := Aside0.mk (Kd.R_below (by (with_reducible repeat (first | apply Kd.R_alloc | apply Kd.R_drewN | apply Kd.R_drew)); exact HO_7.out) hb)
                  replace HO_9 := Aside0.mk (Kd.R_below (by (with_reducible repeat (first | apply Kd.R_alloc | apply Kd.R_drewN | apply Kd.R_drew)); exact HO_9.out) hb)
                  replace aa := Aside0.mk (k3e4e.q aa.out hb rfl)
                  replace HB := Aside0.mk (k3e4e.z HB.out hb rfl rfl rfl rfl)
                  (try clear hb)
                  (try clear ai)
                  (try clear hk)
                  (try clear hi)
                  refine hK.out _ _ (k3e4e.b2 aa.out ⟨HS2_, ⟨HS3_, HS4_⟩⟩) (fun hHeld => ?_)
                  clear hK K
                  refine norm_ (a' := ?_) ?_ ?_
                  rotate_left
                  ·show Act.put _ (some 100) _ = _
                   simp only [Act.put, List.setIfInBounds_toArray, List.set_cons_zero, List.set_cons_succ, i64_w]
                   rfl
                  refine pure_ (i := 19) (N := some 101) (v := ?_) (a' := ?_) #[true, true, true, true, true, true, true, true, true, true, true, true, true, true, true, true, true, true, true, true, false, false] rfl rfl (any_of HT_.out (by kernel_rfl)) (fun _ _ _ h => h) (Or.inl ⟨by rfl, ?_⟩) ?_ ?_
                  rotate_left
                  ·intro w'
                   go_simp
                   with_reducible rfl
                  rotate_left
                  ·simp only [Act.put, List.setIfInBounds_toArray, List.set_cons_zero, List.set_cons_succ, i64_w]
                   rfl
                  refine pure_ (i := 20) (N := some 102) (v := ?_) (a' := ?_) #[true, true, true, true, true, true, true, true, true, true, true, true, true, true, true, true, true, true, true, true, true, false] rfl rfl (any_of HT_.out (by kernel_rfl)) (fun _ _ _ h => h) (Or.inl ⟨by rfl, ?_⟩) ?_ ?_
                  rotate_left
                  ·intro w'
                   go_simp
                   with_reducible rfl
                  rotate_left
                  ·simp only [Act.put, List.setIfInBounds_toArray, List.set_cons_zero, List.set_cons_succ, i64_w]
                   rfl
                  refine pure_ (i := 21) (N := some 103) (v := ?_) (a' := ?_) #[true, true, true, true, true, true, true, true, true, true, true, true, true, true, true, true, true, true, true, true, true, true] rfl rfl (any_of HT_.out (by kernel_rfl)) (fun _ _ _ h => h) (Or.inl ⟨by rfl, ?_⟩) ?_ ?_
                  rotate_left
                  ·intro w'
                   go_simp
                   with_reducible rfl
                  rotate_left
                  ·simp only [Act.put, List.setIfInBounds_toArray, List.set_cons_zero, List.set_cons_succ, i64_w]
                   rfl
                  refine done_ (done_of HT_.out (by kernel_rfl)) ?_
                  try go_wp2
                  go_ret
                  exact ⟨by first | rfl | (simp [errW_none, errW_some] <;> rfl) | (simp [*, errW_none, errW_some] <;> rfl), by repeat (first | (with_reducible first | exact HB.out | apply below_alloc | apply pw_below_drewN | apply below_drew1) | exact HB.out)⟩
                 ·rw [if_neg ar] at H
                  have c51b0 : (t430 != (!t434)) = false := by simpa using ar
                  try (have c51b08 : (!(t430 == !t434)) = false := c51b0)
                  try (have c51b07 : (t430 == t434) = false := by (have h := c51b0); revert h; generalize t430 = p; generalize t434 = q; cases p <;> cases q <;> decide)
                  (try (have c51b1 : decide (t430 = (!t434)) = true := by simpa using ar))
                  (try (have c51b2 : (t430 == (!t434)) = true := by simpa using ar))
                  clear ar
                  have H' := Aside0.mk H
                  clear H
                  obtain ⟨Ao57, co57, eo57⟩ := Kd.R_slice HO_9.out
                  subst eo57
                  try go_wp2
                  replace HO_7 := Aside0.mk (Kd.R_drew HO_7.out)
                  replace HO_9 := Aside0.mk (Kd.R_drew HO_9.out)
                  replace aa := Aside0.mk (blk_drew aa.out)
                  replace HB := Aside0.mk (below_drew1 HB.out)
                  have p429 : 0 ≤ (x10_3 : Int) := of_decide_eq_true (by first | (with_reducible assumption) | assumption)
                  have q429 : x10_3 < (af.length : Int) := of_decide_eq_true (by first | (with_reducible assumption) | assumption)
                  obtain ⟨ad429, e429, hx429_0⟩ := Kd.at_int (Kd.R_reads' HO_9.out).2.2 x10_3 p429 q429
                  cases e429
                  replace p429 := eq_true p429
                  replace q429 := eq_true q429
                  have p431 : 0 ≤ (x10_3 : Int) := of_decide_eq_true (by first | (with_reducible assumption) | assumption)
                  have q431 : x10_3 < (af.length : Int) := of_decide_eq_true (by first | (with_reducible assumption) | assumption)
                  obtain ⟨ad431, e431, hx431_0⟩ := Kd.at_int (Kd.R_reads' HO_9.out).2.2 x10_3 p431 q431
                  obtain rfl : ad429 = ad431 := (by injection e431)
                  replace p431 := eq_true p431
                  replace q431 := eq_true q431
                  have p433 : 0 ≤ (x10_3 : Int) := of_decide_eq_true (by first | (with_reducible assumption) | assumption)
                  have q433 : x10_3 < (af.length : Int) := of_decide_eq_true (by first | (with_reducible assumption) | assumption)
                  obtain ⟨ad433, e433, hx433_0⟩ := Kd.at_int (Kd.R_reads' HO_9.out).2.2 x10_3 p433 q433
                  obtain rfl : ad429 = ad433 := (by injection e433)
                  replace p433 := eq_true p433
                  replace q433 := eq_true q433
                  refine start_ (n := 22) (S := fun w' => w'.cell? ⟨ae, 0, none⟩ = some (.int .u32 ab) ∧ w'.cell? ⟨ae, 1, none⟩ = some (.int .i64 ac) ∧ w'.cell? (ad429.add (x10_3).toNat) = some (.int .u32 (rd af x10_3)) ∧ w'.cell? (ad429.add (x10_3).toNat) = some (.int .u32 (rd af x10_3)) ∧ w'.cell? (ad429.add (x10_3).toNat) = some (.int .u32 (rd af x10_3))) (ds := []) #[false, false, false, false, false, false, false, false, false, false, false, false, false, false, false, false, false, false, false, false, false, false] (by kernel_rfl) rfl rfl (k3e4e.b2 aa.out ⟨hx429_0, ⟨hx431_0, hx433_0⟩⟩) (fun hHeld => ?_); refine with_tabW whirligiglaw01_AddrMinus.tab17 whirligiglaw01_AddrMinus.bits17 (fun HT_ HW_ => ?_)
                  generalize wr.drew = w58 at HO_7 HO_9 aa HB hx429_0 hx431_0 hx433_0 hHeld ⊢
                  refine pure_ (i := 0) (N := some 82) (v := ?_) (a' := ?_) #[true, false, false, false, false, false, false, false, false, false, false, false, false, false, false, false, false, false, false, false, false, false] rfl rfl (any_of HT_.out (by kernel_rfl)) (fun _ _ _ h => h) (Or.inl ⟨by rfl, ?_⟩) ?_ ?_
                  rotate_left
                  ·intro w'
                   go_simp
                   with_reducible rfl
                  rotate_left
                  ·simp only [Act.put, List.setIfInBounds_toArray, List.set_cons_zero, List.set_cons_succ, i64_w]
                   rfl
                  refine pure_ (i := 1) (N := some 83) (v := ?_) (a' := ?_) #[true, true, false, false, false, false, false, false, false, false, false, false, false, false, false, false, false, false, false, false, false, false] rfl rfl (any_of HT_.out (by kernel_rfl)) (fun _ _ _ h => h) (Or.inl ⟨by rfl, ?_⟩) ?_ ?_
                  rotate_left
                  ·intro w'
                   go_simp
                   with_reducible rfl
                  rotate_left
                  ·simp only [Act.put, List.setIfInBounds_toArray, List.set_cons_zero, List.set_cons_succ, i64_w]
                   rfl
                  refine pure_ (i := 2) (N := some 84) (v := ?_) (a' := ?_) #[true, true, true, false, false, false, false, false, false, false, false, false, false, false, false, false, false, false, false, false, false, false] rfl rfl (any_of HT_.out (by kernel_rfl)) (fun _ _ _ h => h) (Or.inl ⟨by rfl, ?_⟩) ?_ ?_
                  rotate_left
                  ·intro w'
                   go_simp
                   with_reducible rfl
                  rotate_left
                  ·simp only [Act.put, List.setIfInBounds_toArray, List.set_cons_zero, List.set_cons_succ, i64_w]
                   rfl
                  refine pure_ (i := 3) (N := some 85) (v := ?_) (a' := ?_) #[true, true, true, true, false, false, false, false, false, false, false, false, false, false, false, false, false, false, false, false, false, false] rfl rfl (any_of HT_.out (by kernel_rfl)) (fun _ _ _ h => h) (Or.inl ⟨by rfl, ?_⟩) ?_ ?_
                  rotate_left
                  ·intro w'
                   go_simp
                   with_reducible rfl
                  rotate_left
                  ·simp only [Act.put, List.setIfInBounds_toArray, List.set_cons_zero, List.set_cons_succ, i64_w]
                   rfl
                  refine pure_ (i := 6) (N := some 88) (v := ?_) (a' := ?_) #[true, true, true, true, false, false, true, false, false, false, false, false, false, false, false, false, false, false, false, false, false, false] rfl rfl (any_of HT_.out (by kernel_rfl)) (fun _ _ _ h => h) (Or.inl ⟨by rfl, ?_⟩) ?_ ?_
                  rotate_left
                  ·intro w'
                   go_simp
                   with_reducible rfl
                  rotate_left
                  ·simp only [Act.put, List.setIfInBounds_toArray, List.set_cons_zero, List.set_cons_succ, i64_w]
                   rfl
                  refine pure_ (i := 7) (N := some 89) (v := ?_) (a' := ?_) #[true, true, true, true, false, false, true, true, false, false, false, false, false, false, false, false, false, false, false, false, false, false] rfl rfl (any_of HT_.out (by kernel_rfl)) (fun _ _ _ h => h) (Or.inl ⟨by rfl, ?_⟩) ?_ ?_
                  rotate_left
                  ·intro w'
                   go_simp
                   with_reducible rfl
                  rotate_left
                  ·simp only [Act.put, List.setIfInBounds_toArray, List.set_cons_zero, List.set_cons_succ, i64_w]
                   rfl
                  refine pure_ (i := 8) (N := some 90) (v := ?_) (a' := ?_) #[true, true, true, true, false, false, true, true, true, false, false, false, false, false, false, false, false, false, false, false, false, false] rfl rfl (any_of HT_.out (by kernel_rfl)) (fun _ _ _ h => h) (Or.inl ⟨by rfl, ?_⟩) ?_ ?_
                  rotate_left
                  ·intro w'
                   go_simp
                   with_reducible rfl
                  rotate_left
                  ·simp only [Act.put, List.setIfInBounds_toArray, List.set_cons_zero, List.set_cons_succ, i64_w]
                   rfl
                  refine pure_ (i := 9) (N := some 91) (v := ?_) (a' := ?_) #[true, true, true, true, false, false, true, true, true, true, false, false, false, false, false, false, false, false, false, false, false, false] rfl rfl (any_of HT_.out (by kernel_rfl)) (fun _ _ _ h => h) (Or.inl ⟨by rfl, ?_⟩) ?_ ?_
                  rotate_left
                  ·intro w'
                   go_simp
                   with_reducible rfl
                  rotate_left
                  ·simp only [Act.put, List.setIfInBounds_toArray, List.set_cons_zero, List.set_cons_succ, i64_w]
                   rfl
                  refine take_ (i := 4) (N := some 86) (v := ?_) (a' := ?_) #[true, true, true, true, true, false, true, true, true, true, false, false, false, false, false, false, false, false, false, false, false, false] rfl rfl (take_ofW HT_.out HW_.out (by kernel_rfl)) (fun _ _ _ h => h) (Or.inl ⟨by rfl, ?_⟩) hHeld ?_ ?_
                  rotate_left
                  ·rintro w' ⟨s0, s1, s2, s3, s4⟩
                   go_simp
                   with_reducible rfl
                  rotate_left
                  ·simp only [Act.put, List.setIfInBounds_toArray, List.set_cons_zero, List.set_cons_succ, i64_w]
                   rfl
                  refine take_ (i := 10) (N := some 92) (v := ?_) (a' := ?_) #[true, true, true, true, true, false, true, true, true, true, true, false, false, false, false, false, false, false, false, false, false, false] rfl rfl (take_ofW HT_.out HW_.out (by kernel_rfl)) (fun _ _ _ h => h) (Or.inl ⟨by rfl, ?_⟩) hHeld ?_ ?_
                  rotate_left
                  ·rintro w' ⟨s0, s1, s2, s3, s4⟩
                   go_simp
                   with_reducible rfl
                  rotate_left
                  ·simp only [Act.put, List.setIfInBounds_toArray, List.set_cons_zero, List.set_cons_succ, i64_w]
                   rfl
                  refine one_ (i := 5) (N := some 87) #[true, true, true, true, true, true, true, true, true, true, true, false, false, false, false, false, false, false, false, false, false, false] rfl rfl (one_of HT_.out (by kernel_rfl)) (by decide) (fun K hK => ?_)
                  refine goes_ Try.func14 (by kernel_rfl) rfl #[.slice Ao33 t397.length co33, .int .u32 (rd af x10_3)] (by rfl) rfl rfl (by (try simp only [List.map_toArray, List.map_cons, List.map_nil]); first | done | rfl) ?_
                  with_reducible refine (whirligigref01_In.calls k3 _ _ t397 (rd af x10_3) t430 _ ?side1 ?side2 A47.out).mono ?_
                  (case side1 => repeat (first | exact (Kd.R_reads' HO_7.out).2.2 | (with_reducible refine Kd.C_alloc ?_ _) | (with_reducible refine Kd.C_drewN ?_ _) | (with_reducible refine Kd.C_drew ?_)))
                  (case side2 => exact (Kd.R_reads' HO_7.out).2.1)
                  rintro e w59 ⟨rfl, hb⟩
                  have HS2_ := (hb.cell (World.block_lt_of_cell? _ _ (hHeld.2.2.1))).trans (hHeld.2.2.1)
                  have HS3_ := (hb.cell (World.block_lt_of_cell? _ _ (hHeld.2.2.2.1))).trans (hHeld.2.2.2.1)
                  have HS4_ := (hb.cell (World.block_lt_of_cell? _ _ (hHeld.2.2.2.2))).trans (hHeld.2.2.2.2)
                  refine ⟨_, rfl, ?_⟩
                  replace HO_7 := Aside0.mk (Kd.R_below (by (with_reducible repeat (first | apply Kd.R_alloc | apply Kd.R_drewN | apply Kd.R_drew)); exact HO_7.out) hb)
                  replace HO_9 := Aside0.mk (Kd.R_below (by (with_reducible repeat (first | apply Kd.R_alloc | apply Kd.R_drewN | apply Kd.R_drew)); exact HO_9.out) hb)
                  replace aa := Aside0.mk (k3e4e.q aa.out hb rfl)
                  replace HB := Aside0.mk (k3e4e.z HB.out hb rfl rfl rfl rfl)
                  (try clear hb)
                  (try clear ai)
                  (try clear hk)
                  (try clear hi)
                  refine hK.out _ _ (k3e4e.b2 aa.out ⟨HS2_, ⟨HS3_, HS4_⟩⟩) (fun hHeld => ?_)
                  clear hK K
                  refine norm_ (a' := ?_) ?_ ?_
                  rotate_left
                  ·show Act.put _ (some 87) _ = _
                   simp only [Act.put, List.setIfInBounds_toArray, List.set_cons_zero, List.set_cons_succ, i64_w]
                   rfl
                  refine one_ (i := 11) (N := some 93) #[true, true, true, true, true, true, true, true, true, true, true, true, false, false, false, false, false, false, false, false, false, false] rfl rfl (one_of HT_.out (by kernel_rfl)) (by decide) (fun K hK => ?_)
                  refine goes_ Try.func14 (by kernel_rfl) rfl #[.slice A0 l0.length c0, .int .u32 (rd af x10_3)] (by rfl) rfl rfl (by (try simp only [List.map_toArray, List.map_cons, List.map_nil]); first | done | rfl) ?_
                  with_reducible refine (whirligigref01_In.calls k3 _ _ l0 (rd af x10_3) true _ ?side1 ?side2 A48.out).mono ?_
                  (case side1 => repeat (first | exact (Kd.C_below ap.out HB.out) | (with_reducible refine Kd.C_alloc ?_ _) | (with_reducible refine Kd.C_drewN ?_ _) | (with_reducible refine Kd.C_drew ?_)))
                  (case side2 => exact aq.out)
                  rintro e w60 ⟨rfl, hb⟩
                  have HS2_ := (hb.cell (World.block_lt_of_cell? _ _ (hHeld.2.2.1))).trans (hHeld.2.2.1)
                  have HS3_ := (hb.cell (World.block_lt_of_cell? _ _ (hHeld.2.2.2.1))).trans (hHeld.2.2.2.1)
                  have HS4_ := (hb.cell (World.block_lt_of_cell? _ _ (hHeld.2.2.2.2))).trans (hHeld.2.2.2.2)
                  refine ⟨_, rfl, ?_⟩
                  replace HO_7 := Aside0.mk (Kd.R_below (by (with_reducible repeat (first | apply Kd.R_alloc | apply Kd.R_drewN | apply Kd.R_drew)); exact HO_7.out) hb)
                  replace HO_9 := Aside0.mk (Kd.R_below (by (with_reducible repeat (first | apply Kd.R_alloc | apply Kd.R_drewN | apply Kd.R_drew)); exact HO_9.out) hb)
                  replace aa := Aside0.mk (k3e4e.q aa.out hb rfl)
                  replace HB := Aside0.mk (k3e4e.z HB.out hb rfl rfl rfl rfl)
                  (try clear hb)
                  (try clear ai)
                  (try clear hk)
                  (try clear hi)
                  refine hK.out _ _ (k3e4e.b2 aa.out ⟨HS2_, ⟨HS3_, HS4_⟩⟩) (fun hHeld => ?_)
                  clear hK K
                  refine norm_ (a' := ?_) ?_ ?_
                  rotate_left
                  ·show Act.put _ (some 93) _ = _
                   simp only [Act.put, List.setIfInBounds_toArray, List.set_cons_zero, List.set_cons_succ, i64_w]
                   rfl
                  refine pure_ (i := 12) (N := some 94) (v := ?_) (a' := ?_) #[true, true, true, true, true, true, true, true, true, true, true, true, true, false, false, false, false, false, false, false, false, false] rfl rfl (any_of HT_.out (by kernel_rfl)) (fun _ _ _ h => h) (Or.inl ⟨by rfl, ?_⟩) ?_ ?_
                  rotate_left
                  ·intro w'
                   go_simp
                   with_reducible rfl
                  rotate_left
                  ·simp only [Act.put, List.setIfInBounds_toArray, List.set_cons_zero, List.set_cons_succ, i64_w]
                   rfl
                  refine pure_ (i := 14) (N := some 96) (v := ?_) (a' := ?_) #[true, true, true, true, true, true, true, true, true, true, true, true, true, false, true, false, false, false, false, false, false, false] rfl rfl (any_of HT_.out (by kernel_rfl)) (fun _ _ _ h => h) (Or.inl ⟨by rfl, ?_⟩) ?_ ?_
                  rotate_left
                  ·intro w'
                   go_simp
                   with_reducible rfl
                  rotate_left
                  ·simp only [Act.put, List.setIfInBounds_toArray, List.set_cons_zero, List.set_cons_succ, i64_w]
                   rfl
                  refine pure_ (i := 15) (N := some 97) (v := ?_) (a' := ?_) #[true, true, true, true, true, true, true, true, true, true, true, true, true, false, true, true, false, false, false, false, false, false] rfl rfl (any_of HT_.out (by kernel_rfl)) (fun _ _ _ h => h) (Or.inl ⟨by rfl, ?_⟩) ?_ ?_
                  rotate_left
                  ·intro w'
                   go_simp
                   with_reducible rfl
                  rotate_left
                  ·simp only [Act.put, List.setIfInBounds_toArray, List.set_cons_zero, List.set_cons_succ, i64_w]
                   rfl
                  refine pure_ (i := 16) (N := some 98) (v := ?_) (a' := ?_) #[true, true, true, true, true, true, true, true, true, true, true, true, true, false, true, true, true, false, false, false, false, false] rfl rfl (any_of HT_.out (by kernel_rfl)) (fun _ _ _ h => h) (Or.inl ⟨by rfl, ?_⟩) ?_ ?_
                  rotate_left
                  ·intro w'
                   go_simp
                   with_reducible rfl
                  rotate_left
                  ·simp only [Act.put, List.setIfInBounds_toArray, List.set_cons_zero, List.set_cons_succ, i64_w]
                   rfl
                  refine take_ (i := 13) (N := some 95) (v := ?_) (a' := ?_) #[true, true, true, true, true, true, true, true, true, true, true, true, true, true, true, true, true, false, false, false, false, false] rfl rfl (take_ofW HT_.out HW_.out (by kernel_rfl)) (fun _ _ _ h => h) (Or.inl ⟨by rfl, ?_⟩) hHeld ?_ ?_
                  rotate_left
                  ·rintro w' ⟨s0, s1, s2, s3, s4⟩
                   go_simp
                   with_reducible rfl
                  rotate_left
                  ·simp only [Act.put, List.setIfInBounds_toArray, List.set_cons_zero, List.set_cons_succ, i64_w]
                   rfl
                  refine take_ (i := 17) (N := some 99) (v := ?_) (a' := ?_) #[true, true, true, true, true, true, true, true, true, true, true, true, true, true, true, true, true, true, false, false, false, false] rfl rfl (take_ofW HT_.out HW_.out (by kernel_rfl)) (fun _ _ _ h => h) (Or.inl ⟨by rfl, ?_⟩) hHeld ?_ ?_
                  rotate_left
                  ·rintro w' ⟨s0, s1, s2, s3, s4⟩
                   go_simp
                   with_reducible rfl
                  rotate_left
                  ·simp only [Act.put, List.setIfInBounds_toArray, List.set_cons_zero, List.set_cons_succ, i64_w]
                   rfl
                  refine one_ (i := 18) (N := some 100) #[true, true, true, true, true, true, true, true, true, true, true, true, true, true, true, true, true, true, true, false, false, false] rfl rfl (one_of HT_.out (by kernel_rfl)) (by decide) (fun K hK => ?_)
                  refine goes_ Try.func18 (by kernel_rfl) rfl #[.agg #[.int .u32 ab, .int .i64 ac], .int .u32 (rd af x10_3)] (by rfl) rfl rfl (by (try simp only [List.map_toArray, List.map_cons, List.map_nil]); first | done | rfl) ?_
                  with_reducible refine (whirligigref01_Has.calls k3 ab ac (rd af x10_3) t434 _ A50.out).mono ?_
                  rintro e w61 ⟨rfl, hb⟩
                  have HS2_ := (hb.cell (World.block_lt_of_cell? _ _ (hHeld.2.2.1))).trans (hHeld.2.2.1)
                  have HS3_ := (hb.cell (World.block_lt_of_cell? _ _ (hHeld.2.2.2.1))).trans (hHeld.2.2.2.1)
                  have HS4_ := (hb.cell (World.block_lt_of_cell? _ _ (hHeld.2.2.2.2))).trans (hHeld.2.2.2.2)
                  refine ⟨_, rfl, ?_⟩
                  replace HO_7 := Aside0.mk (Kd.R_below (by (with_reducible repeat (first | apply Kd.R_alloc | apply Kd.R_drewN | apply Kd.R_drew)); exact HO_7.out) hb)
                  replace HO_9 := Aside0.mk (Kd.R_below (by (with_reducible repeat (first | apply Kd.R_alloc | apply Kd.R_drewN | apply Kd.R_drew)); exact HO_9.out) hb)
                  replace aa := Aside0.mk (k3e4e.q aa.out hb rfl)
                  replace HB := Aside0.mk (k3e4e.z HB.out hb rfl rfl rfl rfl)
                  (try clear hb)
                  (try clear ai)
                  (try clear hk)
                  (try clear hi)
                  refine hK.out _ _ (k3e4e.b2 aa.out ⟨HS2_, ⟨HS3_, HS4_⟩⟩) (fun hHeld => ?_)
                  clear hK K
                  refine norm_ (a' := ?_) ?_ ?_
                  rotate_left
                  ·show Act.put _ (some 100) _ = _
                   simp only [Act.put, List.setIfInBounds_toArray, List.set_cons_zero, List.set_cons_succ, i64_w]
                   rfl
                  refine pure_ (i := 19) (N := some 101) (v := ?_) (a' := ?_) #[true, true, true, true, true, true, true, true, true, true, true, true, true, true, true, true, true, true, true, true, false, false] rfl rfl (any_of HT_.out (by kernel_rfl)) (fun _ _ _ h => h) (Or.inl ⟨by rfl, ?_⟩) ?_ ?_
                  rotate_left
                  ·intro w'
                   go_simp
                   with_reducible rfl
                  rotate_left
                  ·simp only [Act.put, List.setIfInBounds_toArray, List.set_cons_zero, List.set_cons_succ, i64_w]
                   rfl
                  refine pure_ (i := 20) (N := some 102) (v := ?_) (a' := ?_) #[true, true, true, true, true, true, true, true, true, true, true, true, true, true, true, true, true, true, true, true, true, false] rfl rfl (any_of HT_.out (by kernel_rfl)) (fun _ _ _ h => h) (Or.inl ⟨by rfl, ?_⟩) ?_ ?_
                  rotate_left
                  ·intro w'
                   go_simp
                   with_reducible rfl
                  rotate_left
                  ·simp only [Act.put, List.setIfInBounds_toArray, List.set_cons_zero, List.set_cons_succ, i64_w]
                   rfl
                  refine pure_ (i := 21) (N := some 103) (v := ?_) (a' := ?_) #[true, true, true, true, true, true, true, true, true, true, true, true, true, true, true, true, true, true, true, true, true, true] rfl rfl (any_of HT_.out (by kernel_rfl)) (fun _ _ _ h => h) (Or.inl ⟨by rfl, ?_⟩) ?_ ?_
                  rotate_left
                  ·intro w'
                   go_simp
                   with_reducible rfl
                  rotate_left
                  ·simp only [Act.put, List.setIfInBounds_toArray, List.set_cons_zero, List.set_cons_succ, i64_w]
                   rfl
                  refine done_ (done_of HT_.out (by kernel_rfl)) ?_
                  try go_wp2
                  go_roundg k3
                  case measure => have := HJ3.out; have := HJ14.out; have := HK3.out; omega
                  case rel => exact ⟨(wrap64 (x10_3 + 1)), (by first | rfl | (simp; done) | (simp [*]; done)), H', ⟨by have := HJ3.out; have := HJ14.out; have := HK3.out; omega⟩, ⟨by (with_reducible repeat (first | apply Kd.R_alloc | apply Kd.R_drewN | apply Kd.R_drew)); exact HO_7.out⟩, ⟨by (with_reducible repeat (first | apply Kd.R_alloc | apply Kd.R_drewN | apply Kd.R_drew)); exact HO_9.out⟩, ⟨by (with_reducible repeat (first | refine blk_drewN ?_ _ | refine blk_drew ?_ | refine blk_alloc ?_ _)); exact aa.out⟩, ⟨by repeat (first | (with_reducible first | exact HB.out | apply below_alloc | apply pw_below_drewN | apply below_drew1) | exact HB.out)⟩⟩
                ·replace c49 := Bool.eq_false_iff.mpr c49
                 subst c49
                 have H1 := H
                 rw [if_neg (show ¬ (false = true) by decide)] at H1
                 clear H
                 have H := H1
                 clear H1
                 by_cases au : (t430 != false) = true
                 ·rw [if_pos au] at H
                  have c62b0 : (t430 != false) = true := au
                  (try (have c62b1 : decide (t430 = false) = false := by simpa using au))
                  (try (have c62b2 : (t430 == false) = false := by simpa using au))
                  (try (have c62b3 : ¬ (t430 = false) := by simpa using au))
                  clear au
                  obtain rfl := Option.some.inj H
                  obtain ⟨Ao63, co63, eo63⟩ := Kd.R_slice HO_9.out
                  subst eo63
                  try go_wp2
                  replace HO_7 := Aside0.mk (Kd.R_drew HO_7.out)
                  replace HO_9 := Aside0.mk (Kd.R_drew HO_9.out)
                  replace aa := Aside0.mk (blk_drew aa.out)
                  replace HB := Aside0.mk (below_drew1 HB.out)
                  have p429 : 0 ≤ (x10_3 : Int) := of_decide_eq_true (by first | (with_reducible assumption) | assumption)
                  have q429 : x10_3 < (af.length : Int) := of_decide_eq_true (by first | (with_reducible assumption) | assumption)
                  obtain ⟨ad429, e429, hx429_0⟩ := Kd.at_int (Kd.R_reads' HO_9.out).2.2 x10_3 p429 q429
                  cases e429
                  replace p429 := eq_true p429
                  replace q429 := eq_true q429
                  have p431 : 0 ≤ (x10_3 : Int) := of_decide_eq_true (by first | (with_reducible assumption) | assumption)
                  have q431 : x10_3 < (af.length : Int) := of_decide_eq_true (by first | (with_reducible assumption) | assumption)
                  obtain ⟨ad431, e431, hx431_0⟩ := Kd.at_int (Kd.R_reads' HO_9.out).2.2 x10_3 p431 q431
                  obtain rfl : ad429 = ad431 := (by injection e431)
                  replace p431 := eq_true p431
                  replace q431 := eq_true q431
                  refine start_ (n := 22) (S := fun w' => w'.cell? (ad429.add (x10_3).toNat) = some (.int .u32 (rd af x10_3)) ∧ w'.cell? (ad429.add (x10_3).toNat) = some (.int .u32 (rd af x10_3))) (ds := []) #[false, false, false, false, false, false, false, false, false, false, false, false, false, false, false, false, false, false, false, false, false, false] (by kernel_rfl) rfl rfl ⟨hx429_0, hx431_0⟩ (fun hHeld => ?_); refine with_tabW whirligiglaw01_AddrMinus.tab17 whirligiglaw01_AddrMinus.bits17 (fun HT_ HW_ => ?_)
                  generalize wr.drew = w64 at HO_7 HO_9 aa HB hx429_0 hx431_0 hHeld ⊢
                  refine pure_ (i := 0) (N := some 82) (v := ?_) (a' := ?_) #[true, false, false, false, false, false, false, false, false, false, false, false, false, false, false, false, false, false, false, false, false, false] rfl rfl (any_of HT_.out (by kernel_rfl)) (fun _ _ _ h => h) (Or.inl ⟨by rfl, ?_⟩) ?_ ?_
                  rotate_left
                  ·intro w'
                   go_simp
                   with_reducible rfl
                  rotate_left
                  ·simp only [Act.put, List.setIfInBounds_toArray, List.set_cons_zero, List.set_cons_succ, i64_w]
                   rfl
                  refine pure_ (i := 1) (N := some 83) (v := ?_) (a' := ?_) #[true, true, false, false, false, false, false, false, false, false, false, false, false, false, false, false, false, false, false, false, false, false] rfl rfl (any_of HT_.out (by kernel_rfl)) (fun _ _ _ h => h) (Or.inl ⟨by rfl, ?_⟩) ?_ ?_
                  rotate_left
                  ·intro w'
                   go_simp
                   with_reducible rfl
                  rotate_left
                  ·simp only [Act.put, List.setIfInBounds_toArray, List.set_cons_zero, List.set_cons_succ, i64_w]
                   rfl
                  refine pure_ (i := 2) (N := some 84) (v := ?_) (a' := ?_) #[true, true, true, false, false, false, false, false, false, false, false, false, false, false, false, false, false, false, false, false, false, false] rfl rfl (any_of HT_.out (by kernel_rfl)) (fun _ _ _ h => h) (Or.inl ⟨by rfl, ?_⟩) ?_ ?_
                  rotate_left
                  ·intro w'
                   go_simp
                   with_reducible rfl
                  rotate_left
                  ·simp only [Act.put, List.setIfInBounds_toArray, List.set_cons_zero, List.set_cons_succ, i64_w]
                   rfl
                  refine pure_ (i := 3) (N := some 85) (v := ?_) (a' := ?_) #[true, true, true, true, false, false, false, false, false, false, false, false, false, false, false, false, false, false, false, false, false, false] rfl rfl (any_of HT_.out (by kernel_rfl)) (fun _ _ _ h => h) (Or.inl ⟨by rfl, ?_⟩) ?_ ?_
                  rotate_left
                  ·intro w'
                   go_simp
                   with_reducible rfl
                  rotate_left
                  ·simp only [Act.put, List.setIfInBounds_toArray, List.set_cons_zero, List.set_cons_succ, i64_w]
                   rfl
                  refine pure_ (i := 6) (N := some 88) (v := ?_) (a' := ?_) #[true, true, true, true, false, false, true, false, false, false, false, false, false, false, false, false, false, false, false, false, false, false] rfl rfl (any_of HT_.out (by kernel_rfl)) (fun _ _ _ h => h) (Or.inl ⟨by rfl, ?_⟩) ?_ ?_
                  rotate_left
                  ·intro w'
                   go_simp
                   with_reducible rfl
                  rotate_left
                  ·simp only [Act.put, List.setIfInBounds_toArray, List.set_cons_zero, List.set_cons_succ, i64_w]
                   rfl
                  refine pure_ (i := 7) (N := some 89) (v := ?_) (a' := ?_) #[true, true, true, true, false, false, true, true, false, false, false, false, false, false, false, false, false, false, false, false, false, false] rfl rfl (any_of HT_.out (by kernel_rfl)) (fun _ _ _ h => h) (Or.inl ⟨by rfl, ?_⟩) ?_ ?_
                  rotate_left
                  ·intro w'
                   go_simp
                   with_reducible rfl
                  rotate_left
                  ·simp only [Act.put, List.setIfInBounds_toArray, List.set_cons_zero, List.set_cons_succ, i64_w]
                   rfl
                  refine pure_ (i := 8) (N := some 90) (v := ?_) (a' := ?_) #[true, true, true, true, false, false, true, true, true, false, false, false, false, false, false, false, false, false, false, false, false, false] rfl rfl (any_of HT_.out (by kernel_rfl)) (fun _ _ _ h => h) (Or.inl ⟨by rfl, ?_⟩) ?_ ?_
                  rotate_left
                  ·intro w'
                   go_simp
                   with_reducible rfl
                  rotate_left
                  ·simp only [Act.put, List.setIfInBounds_toArray, List.set_cons_zero, List.set_cons_succ, i64_w]
                   rfl
                  refine pure_ (i := 9) (N := some 91) (v := ?_) (a' := ?_) #[true, true, true, true, false, false, true, true, true, true, false, false, false, false, false, false, false, false, false, false, false, false] rfl rfl (any_of HT_.out (by kernel_rfl)) (fun _ _ _ h => h) (Or.inl ⟨by rfl, ?_⟩) ?_ ?_
                  rotate_left
                  ·intro w'
                   go_simp
                   with_reducible rfl
                  rotate_left
                  ·simp only [Act.put, List.setIfInBounds_toArray, List.set_cons_zero, List.set_cons_succ, i64_w]
                   rfl
                  refine take_ (i := 4) (N := some 86) (v := ?_) (a' := ?_) #[true, true, true, true, true, false, true, true, true, true, false, false, false, false, false, false, false, false, false, false, false, false] rfl rfl (take_ofW HT_.out HW_.out (by kernel_rfl)) (fun _ _ _ h => h) (Or.inl ⟨by rfl, ?_⟩) hHeld ?_ ?_
                  rotate_left
                  ·rintro w' ⟨s0, s1⟩
                   go_simp
                   with_reducible rfl
                  rotate_left
                  ·simp only [Act.put, List.setIfInBounds_toArray, List.set_cons_zero, List.set_cons_succ, i64_w]
                   rfl
                  refine take_ (i := 10) (N := some 92) (v := ?_) (a' := ?_) #[true, true, true, true, true, false, true, true, true, true, true, false, false, false, false, false, false, false, false, false, false, false] rfl rfl (take_ofW HT_.out HW_.out (by kernel_rfl)) (fun _ _ _ h => h) (Or.inl ⟨by rfl, ?_⟩) hHeld ?_ ?_
                  rotate_left
                  ·rintro w' ⟨s0, s1⟩
                   go_simp
                   with_reducible rfl
                  rotate_left
                  ·simp only [Act.put, List.setIfInBounds_toArray, List.set_cons_zero, List.set_cons_succ, i64_w]
                   rfl
                  refine one_ (i := 5) (N := some 87) #[true, true, true, true, true, true, true, true, true, true, true, false, false, false, false, false, false, false, false, false, false, false] rfl rfl (one_of HT_.out (by kernel_rfl)) (by decide) (fun K hK => ?_)
                  refine goes_ Try.func14 (by kernel_rfl) rfl #[.slice Ao33 t397.length co33, .int .u32 (rd af x10_3)] (by rfl) rfl rfl (by (try simp only [List.map_toArray, List.map_cons, List.map_nil]); first | done | rfl) ?_
                  with_reducible refine (whirligigref01_In.calls k3 _ _ t397 (rd af x10_3) t430 _ ?side1 ?side2 A47.out).mono ?_
                  (case side1 => repeat (first | exact (Kd.R_reads' HO_7.out).2.2 | (with_reducible refine Kd.C_alloc ?_ _) | (with_reducible refine Kd.C_drewN ?_ _) | (with_reducible refine Kd.C_drew ?_)))
                  (case side2 => exact (Kd.R_reads' HO_7.out).2.1)
                  rintro e w65 ⟨rfl, hb⟩
                  have HS0_ := (hb.cell (World.block_lt_of_cell? _ _ (hHeld.1))).trans (hHeld.1)
                  have HS1_ := (hb.cell (World.block_lt_of_cell? _ _ (hHeld.2))).trans (hHeld.2)
                  refine ⟨_, rfl, ?_⟩
                  replace HO_7 := Aside0.mk (Kd.R_below (by (with_reducible repeat (first | apply Kd.R_alloc | apply Kd.R_drewN | apply Kd.R_drew)); exact HO_7.out) hb)
                  replace HO_9 := Aside0.mk (Kd.R_below (by (with_reducible repeat (first | apply Kd.R_alloc | apply Kd.R_drewN | apply Kd.R_drew)); exact HO_9.out) hb)
                  replace aa := Aside0.mk (k3e4e.q aa.out hb rfl)
                  replace HB := Aside0.mk (k3e4e.z HB.out hb rfl rfl rfl rfl)
                  (try clear hb)
                  (try clear ai)
                  (try clear hk)
                  (try clear hi)
                  refine hK.out _ _ ⟨HS0_, HS1_⟩ (fun hHeld => ?_)
                  clear hK K
                  refine norm_ (a' := ?_) ?_ ?_
                  rotate_left
                  ·show Act.put _ (some 87) _ = _
                   simp only [Act.put, List.setIfInBounds_toArray, List.set_cons_zero, List.set_cons_succ, i64_w]
                   rfl
                  refine one_ (i := 11) (N := some 93) #[true, true, true, true, true, true, true, true, true, true, true, true, false, false, false, false, false, false, false, false, false, false] rfl rfl (one_of HT_.out (by kernel_rfl)) (by decide) (fun K hK => ?_)
                  refine goes_ Try.func14 (by kernel_rfl) rfl #[.slice A0 l0.length c0, .int .u32 (rd af x10_3)] (by rfl) rfl rfl (by (try simp only [List.map_toArray, List.map_cons, List.map_nil]); first | done | rfl) ?_
                  with_reducible refine (whirligigref01_In.calls k3 _ _ l0 (rd af x10_3) false _ ?side1 ?side2 A48.out).mono ?_
                  (case side1 => repeat (first | exact (Kd.C_below ap.out HB.out) | (with_reducible refine Kd.C_alloc ?_ _) | (with_reducible refine Kd.C_drewN ?_ _) | (with_reducible refine Kd.C_drew ?_)))
                  (case side2 => exact aq.out)
                  rintro e w66 ⟨rfl, hb⟩
                  have HS0_ := (hb.cell (World.block_lt_of_cell? _ _ (hHeld.1))).trans (hHeld.1)
                  have HS1_ := (hb.cell (World.block_lt_of_cell? _ _ (hHeld.2))).trans (hHeld.2)
                  refine ⟨_, rfl, ?_⟩
                  replace HO_7 := Aside0.mk (Kd.R_below (by (with_reducible repeat (first | apply Kd.R_alloc | apply Kd.R_drewN | apply Kd.R_drew)); exact HO_7.out) hb)
                  replace HO_9 := Aside0.mk (Kd.R_below (by (with_reducible repeat (first | apply Kd.R_alloc | apply Kd.R_drewN | apply Kd.R_drew)); exact HO_9.out) hb)
                  replace aa := Aside0.mk (k3e4e.q aa.out hb rfl)
                  replace HB := Aside0.mk (k3e4e.z HB.out hb rfl rfl rfl rfl)
                  (try clear hb)
                  (try clear ai)
                  (try clear hk)
                  (try clear hi)
                  refine hK.out _ _ ⟨HS0_, HS1_⟩ (fun hHeld => ?_)
                  clear hK K
                  refine norm_ (a' := ?_) ?_ ?_
                  rotate_left
                  ·show Act.put _ (some 93) _ = _
                   simp only [Act.put, List.setIfInBounds_toArray, List.set_cons_zero, List.set_cons_succ, i64_w]
                   rfl
                  refine pure_ (i := 12) (N := some 94) (v := ?_) (a' := ?_) #[true, true, true, true, true, true, true, true, true, true, true, true, true, false, false, false, false, false, false, false, false, false] rfl rfl (any_of HT_.out (by kernel_rfl)) (fun _ _ _ h => h) (Or.inl ⟨by rfl, ?_⟩) ?_ ?_
                  rotate_left
                  ·intro w'
                   go_simp
                   with_reducible rfl
                  rotate_left
                  ·simp only [Act.put, List.setIfInBounds_toArray, List.set_cons_zero, List.set_cons_succ, i64_w]
                   rfl
                  refine pure_ (i := 13) (N := some 95) (v := undef) (a' := ?_) #[true, true, true, true, true, true, true, true, true, true, true, true, true, true, false, false, false, false, false, false, false, false] rfl rfl (any_of HT_.out (by kernel_rfl)) (fun _ _ _ h => h) (Or.inr ⟨by rfl, rfl⟩) ?_ ?_
                  rotate_left
                  ·simp only [Act.put, List.setIfInBounds_toArray, List.set_cons_zero, List.set_cons_succ, i64_w]
                   rfl
                  refine pure_ (i := 14) (N := some 96) (v := undef) (a' := ?_) #[true, true, true, true, true, true, true, true, true, true, true, true, true, true, true, false, false, false, false, false, false, false] rfl rfl (any_of HT_.out (by kernel_rfl)) (fun _ _ _ h => h) (Or.inr ⟨by rfl, rfl⟩) ?_ ?_
                  rotate_left
                  ·simp only [Act.put, List.setIfInBounds_toArray, List.set_cons_zero, List.set_cons_succ, i64_w]
                   rfl
                  refine pure_ (i := 15) (N := some 97) (v := undef) (a' := ?_) #[true, true, true, true, true, true, true, true, true, true, true, true, true, true, true, true, false, false, false, false, false, false] rfl rfl (any_of HT_.out (by kernel_rfl)) (fun _ _ _ h => h) (Or.inr ⟨by rfl, rfl⟩) ?_ ?_
                  rotate_left
                  ·simp only [Act.put, List.setIfInBounds_toArray, List.set_cons_zero, List.set_cons_succ, i64_w]
                   rfl
                  refine pure_ (i := 16) (N := some 98) (v := undef) (a' := ?_) #[true, true, true, true, true, true, true, true, true, true, true, true, true, true, true, true, true, false, false, false, false, false] rfl rfl (any_of HT_.out (by kernel_rfl)) (fun _ _ _ h => h) (Or.inr ⟨by rfl, rfl⟩) ?_ ?_
                  rotate_left
                  ·simp only [Act.put, List.setIfInBounds_toArray, List.set_cons_zero, List.set_cons_succ, i64_w]
                   rfl
                  refine pure_ (i := 17) (N := some 99) (v := undef) (a' := ?_) #[true, true, true, true, true, true, true, true, true, true, true, true, true, true, true, true, true, true, false, false, false, false] rfl rfl (any_of HT_.out (by kernel_rfl)) (fun _ _ _ h => h) (Or.inr ⟨by rfl, rfl⟩) ?_ ?_
                  rotate_left
                  ·simp only [Act.put, List.setIfInBounds_toArray, List.set_cons_zero, List.set_cons_succ, i64_w]
                   rfl
                  refine pure_ (i := 18) (N := some 100) (v := undef) (a' := ?_) #[true, true, true, true, true, true, true, true, true, true, true, true, true, true, true, true, true, true, true, false, false, false] rfl rfl (any_of HT_.out (by kernel_rfl)) (fun _ _ _ h => h) (Or.inr ⟨by rfl, rfl⟩) ?_ ?_
                  rotate_left
                  ·simp only [Act.put, List.setIfInBounds_toArray, List.set_cons_zero, List.set_cons_succ, i64_w]
                   rfl
                  refine pure_ (i := 19) (N := some 101) (v := undef) (a' := ?_) #[true, true, true, true, true, true, true, true, true, true, true, true, true, true, true, true, true, true, true, true, false, false] rfl rfl (any_of HT_.out (by kernel_rfl)) (fun _ _ _ h => h) (Or.inr ⟨by rfl, rfl⟩) ?_ ?_
                  rotate_left
                  ·simp only [Act.put, List.setIfInBounds_toArray, List.set_cons_zero, List.set_cons_succ, i64_w]
                   rfl
                  refine pure_ (i := 20) (N := some 102) (v := ?_) (a' := ?_) #[true, true, true, true, true, true, true, true, true, true, true, true, true, true, true, true, true, true, true, true, true, false] rfl rfl (any_of HT_.out (by kernel_rfl)) (fun _ _ _ h => h) (Or.inl ⟨by rfl, ?_⟩) ?_ ?_
                  rotate_left
                  ·intro w'
                   go_simp
                   with_reducible rfl
                  rotate_left
                  ·simp only [Act.put, List.setIfInBounds_toArray, List.set_cons_zero, List.set_cons_succ, i64_w]
                   rfl
                  refine pure_ (i := 21) (N := some 103) (v := ?_) (a' := ?_) #[true, true, true, true, true, true, true, true, true, true, true, true, true, true, true, true, true, true, true, true, true, true] rfl rfl (any_of HT_.out (by kernel_rfl)) (fun _ _ _ h => h) (Or.inl ⟨by rfl, ?_⟩) ?_ ?_
                  rotate_left
                  ·intro w'
                   go_simp
                   with_reducible rfl
                  rotate_left
                  ·simp only [Act.put, List.setIfInBounds_toArray, List.set_cons_zero, List.set_cons_succ, i64_w]
                   rfl
                  refine done_ (done_of HT_.out (by kernel_rfl)) ?_
                  try go_wp2
                  go_ret
                  exact ⟨by first | rfl | (simp [errW_none, errW_some] <;> rfl) | (simp [*, errW_none, errW_some] <;> rfl), by repeat (first | (with_reducible first | exact HB.out | apply below_alloc | apply pw_below_drewN | apply below_drew1) | exact HB.out)⟩
                 ·rw [if_neg au] at H
                  have c62b0 : (t430 != false) = false := by simpa using au
                  (try (have c62b1 : decide (t430 = false) = true := by simpa using au))
                  (try (have c62b2 : (t430 == false) = true := by simpa using au))
                  clear au
                  have H' := Aside0.mk H
                  clear H
                  obtain ⟨Ao67, co67, eo67⟩ := Kd.R_slice HO_9.out
                  subst eo67
                  try go_wp2
                  replace HO_7 := Aside0.mk (Kd.R_drew HO_7.out)
                  replace HO_9 := Aside0.mk (Kd.R_drew HO_9.out)
                  replace aa := Aside0.mk (blk_drew aa.out)
                  replace HB := Aside0.mk (below_drew1 HB.out)
                  have p429 : 0 ≤ (x10_3 : Int) := of_decide_eq_true (by first | (with_reducible assumption) | assumption)
                  have q429 : x10_3 < (af.length : Int) := of_decide_eq_true (by first | (with_reducible assumption) | assumption)
                  obtain ⟨ad429, e429, hx429_0⟩ := Kd.at_int (Kd.R_reads' HO_9.out).2.2 x10_3 p429 q429
                  cases e429
                  replace p429 := eq_true p429
                  replace q429 := eq_true q429
                  have p431 : 0 ≤ (x10_3 : Int) := of_decide_eq_true (by first | (with_reducible assumption) | assumption)
                  have q431 : x10_3 < (af.length : Int) := of_decide_eq_true (by first | (with_reducible assumption) | assumption)
                  obtain ⟨ad431, e431, hx431_0⟩ := Kd.at_int (Kd.R_reads' HO_9.out).2.2 x10_3 p431 q431
                  obtain rfl : ad429 = ad431 := (by injection e431)
                  replace p431 := eq_true p431
                  replace q431 := eq_true q431
                  refine start_ (n := 22) (S := fun w' => w'.cell? (ad429.add (x10_3).toNat) = some (.int .u32 (rd af x10_3)) ∧ w'.cell? (ad429.add (x10_3).toNat) = some (.int .u32 (rd af x10_3))) (ds := []) #[false, false, false, false, false, false, false, false, false, false, false, false, false, false, false, false, false, false, false, false, false, false] (by kernel_rfl) rfl rfl ⟨hx429_0, hx431_0⟩ (fun hHeld => ?_); refine with_tabW whirligiglaw01_AddrMinus.tab17 whirligiglaw01_AddrMinus.bits17 (fun HT_ HW_ => ?_)
                  generalize wr.drew = w68 at HO_7 HO_9 aa HB hx429_0 hx431_0 hHeld ⊢
                  refine pure_ (i := 0) (N := some 82) (v := ?_) (a' := ?_) #[true, false, false, false, false, false, false, false, false, false, false, false, false, false, false, false, false, false, false, false, false, false] rfl rfl (any_of HT_.out (by kernel_rfl)) (fun _ _ _ h => h) (Or.inl ⟨by rfl, ?_⟩) ?_ ?_
                  rotate_left
                  ·intro w'
                   go_simp
                   with_reducible rfl
                  rotate_left
                  ·simp only [Act.put, List.setIfInBounds_toArray, List.set_cons_zero, List.set_cons_succ, i64_w]
                   rfl
                  refine pure_ (i := 1) (N := some 83) (v := ?_) (a' := ?_) #[true, true, false, false, false, false, false, false, false, false, false, false, false, false, false, false, false, false, false, false, false, false] rfl rfl (any_of HT_.out (by kernel_rfl)) (fun _ _ _ h => h) (Or.inl ⟨by rfl, ?_⟩) ?_ ?_
                  rotate_left
                  ·intro w'
                   go_simp
                   with_reducible rfl
                  rotate_left
                  ·simp only [Act.put, List.setIfInBounds_toArray, List.set_cons_zero, List.set_cons_succ, i64_w]
                   rfl
                  refine pure_ (i := 2) (N := some 84) (v := ?_) (a' := ?_) #[true, true, true, false, false, false, false, false, false, false, false, false, false, false, false, false, false, false, false, false, false, false] rfl rfl (any_of HT_.out (by kernel_rfl)) (fun _ _ _ h => h) (Or.inl ⟨by rfl, ?_⟩) ?_ ?_
                  rotate_left
                  ·intro w'
                   go_simp
                   with_reducible rfl
                  rotate_left
                  ·simp only [Act.put, List.setIfInBounds_toArray, List.set_cons_zero, List.set_cons_succ, i64_w]
                   rfl
                  refine pure_ (i := 3) (N := some 85) (v := ?_) (a' := ?_) #[true, true, true, true, false, false, false, false, false, false, false, false, false, false, false, false, false, false, false, false, false, false] rfl rfl (any_of HT_.out (by kernel_rfl)) (fun _ _ _ h => h) (Or.inl ⟨by rfl, ?_⟩) ?_ ?_
                  rotate_left
                  ·intro w'
                   go_simp
                   with_reducible rfl
                  rotate_left
                  ·simp only [Act.put, List.setIfInBounds_toArray, List.set_cons_zero, List.set_cons_succ, i64_w]
                   rfl
                  refine pure_ (i := 6) (N := some 88) (v := ?_) (a' := ?_) #[true, true, true, true, false, false, true, false, false, false, false, false, false, false, false, false, false, false, false, false, false, false] rfl rfl (any_of HT_.out (by kernel_rfl)) (fun _ _ _ h => h) (Or.inl ⟨by rfl, ?_⟩) ?_ ?_
                  rotate_left
                  ·intro w'
                   go_simp
                   with_reducible rfl
                  rotate_left
                  ·simp only [Act.put, List.setIfInBounds_toArray, List.set_cons_zero, List.set_cons_succ, i64_w]
                   rfl
                  refine pure_ (i := 7) (N := some 89) (v := ?_) (a' := ?_) #[true, true, true, true, false, false, true, true, false, false, false, false, false, false, false, false, false, false, false, false, false, false] rfl rfl (any_of HT_.out (by kernel_rfl)) (fun _ _ _ h => h) (Or.inl ⟨by rfl, ?_⟩) ?_ ?_
                  rotate_left
                  ·intro w'
                   go_simp
                   with_reducible rfl
                  rotate_left
                  ·simp only [Act.put, List.setIfInBounds_toArray, List.set_cons_zero, List.set_cons_succ, i64_w]
                   rfl
                  refine pure_ (i := 8) (N := some 90) (v := ?_) (a' := ?_) #[true, true, true, true, false, false, true, true, true, false, false, false, false, false, false, false, false, false, false, false, false, false] rfl rfl (any_of HT_.out (by kernel_rfl)) (fun _ _ _ h => h) (Or.inl ⟨by rfl, ?_⟩) ?_ ?_
                  rotate_left
                  ·intro w'
                   go_simp
                   with_reducible rfl
                  rotate_left
                  ·simp only [Act.put, List.setIfInBounds_toArray, List.set_cons_zero, List.set_cons_succ, i64_w]
                   rfl
                  refine pure_ (i := 9) (N := some 91) (v := ?_) (a' := ?_) #[true, true, true, true, false, false, true, true, true, true, false, false, false, false, false, false, false, false, false, false, false, false] rfl rfl (any_of HT_.out (by kernel_rfl)) (fun _ _ _ h => h) (Or.inl ⟨by rfl, ?_⟩) ?_ ?_
                  rotate_left
                  ·intro w'
                   go_simp
                   with_reducible rfl
                  rotate_left
                  ·simp only [Act.put, List.setIfInBounds_toArray, List.set_cons_zero, List.set_cons_succ, i64_w]
                   rfl
                  refine take_ (i := 4) (N := some 86) (v := ?_) (a' := ?_) #[true, true, true, true, true, false, true, true, true, true, false, false, false, false, false, false, false, false, false, false, false, false] rfl rfl (take_ofW HT_.out HW_.out (by kernel_rfl)) (fun _ _ _ h => h) (Or.inl ⟨by rfl, ?_⟩) hHeld ?_ ?_
                  rotate_left
                  ·rintro w' ⟨s0, s1⟩
                   go_simp
                   with_reducible rfl
                  rotate_left
                  ·simp only [Act.put, List.setIfInBounds_toArray, List.set_cons_zero, List.set_cons_succ, i64_w]
                   rfl
                  refine take_ (i := 10) (N := some 92) (v := ?_) (a' := ?_) #[true, true, true, true, true, false, true, true, true, true, true, false, false, false, false, false, false, false, false, false, false, false] rfl rfl (take_ofW HT_.out HW_.out (by kernel_rfl)) (fun _ _ _ h => h) (Or.inl ⟨by rfl, ?_⟩) hHeld ?_ ?_
                  rotate_left
                  ·rintro w' ⟨s0, s1⟩
                   go_simp
                   with_reducible rfl
                  rotate_left
                  ·simp only [Act.put, List.setIfInBounds_toArray, List.set_cons_zero, List.set_cons_succ, i64_w]
                   rfl
                  refine one_ (i := 5) (N := some 87) #[true, true, true, true, true, true, true, true, true, true, true, false, false, false, false, false, false, false, false, false, false, false] rfl rfl (one_of HT_.out (by kernel_rfl)) (by decide) (fun K hK => ?_)
                  refine goes_ Try.func14 (by kernel_rfl) rfl #[.slice Ao33 t397.length co33, .int .u32 (rd af x10_3)] (by rfl) rfl rfl (by (try simp only [List.map_toArray, List.map_cons, List.map_nil]); first | done | rfl) ?_
                  with_reducible refine (whirligigref01_In.calls k3 _ _ t397 (rd af x10_3) t430 _ ?side1 ?side2 A47.out).mono ?_
                  (case side1 => repeat (first | exact (Kd.R_reads' HO_7.out).2.2 | (with_reducible refine Kd.C_alloc ?_ _) | (with_reducible refine Kd.C_drewN ?_ _) | (with_reducible refine Kd.C_drew ?_)))
                  (case side2 => exact (Kd.R_reads' HO_7.out).2.1)
                  rintro e w69 ⟨rfl, hb⟩
                  have HS0_ := (hb.cell (World.block_lt_of_cell? _ _ (hHeld.1))).trans (hHeld.1)
                  have HS1_ := (hb.cell (World.block_lt_of_cell? _ _ (hHeld.2))).trans (hHeld.2)
                  refine ⟨_, rfl, ?_⟩
                  replace HO_7 := Aside0.mk (Kd.R_below (by (with_reducible repeat (first | apply Kd.R_alloc | apply Kd.R_drewN | apply Kd.R_drew)); exact HO_7.out) hb)
                  replace HO_9 := Aside0.mk (Kd.R_below (by (with_reducible repeat (first | apply Kd.R_alloc | apply Kd.R_drewN | apply Kd.R_drew)); exact HO_9.out) hb)
                  replace aa := Aside0.mk (k3e4e.q aa.out hb rfl)
                  replace HB := Aside0.mk (k3e4e.z HB.out hb rfl rfl rfl rfl)
                  (try clear hb)
                  (try clear ai)
                  (try clear hk)
                  (try clear hi)
                  refine hK.out _ _ ⟨HS0_, HS1_⟩ (fun hHeld => ?_)
                  clear hK K
                  refine norm_ (a' := ?_) ?_ ?_
                  rotate_left
                  ·show Act.put _ (some 87) _ = _
                   simp only [Act.put, List.setIfInBounds_toArray, List.set_cons_zero, List.set_cons_succ, i64_w]
                   rfl
                  refine one_ (i := 11) (N := some 93) #[true, true, true, true, true, true, true, true, true, true, true, true, false, false, false, false, false, false, false, false, false, false] rfl rfl (one_of HT_.out (by kernel_rfl)) (by decide) (fun K hK => ?_)
                  refine goes_ Try.func14 (by kernel_rfl) rfl #[.slice A0 l0.length c0, .int .u32 (rd af x10_3)] (by rfl) rfl rfl (by (try simp only [List.map_toArray, List.map_cons, List.map_nil]); first | done | rfl) ?_
                  with_reducible refine (whirligigref01_In.calls k3 _ _ l0 (rd af x10_3) false _ ?side1 ?side2 A48.out).mono ?_
                  (case side1 => repeat (first | exact (Kd.C_below ap.out HB.out) | (with_reducible refine Kd.C_alloc ?_ _) | (with_reducible refine Kd.C_drewN ?_ _) | (with_reducible refine Kd.C_drew ?_)))
                  (case side2 => exact aq.out)
                  rintro e w70 ⟨rfl, hb⟩
                  have HS0_ := (hb.cell (World.block_lt_of_cell? _ _ (hHeld.1))).trans (hHeld.1)
                  have HS1_ := (hb.cell (World.block_lt_of_cell? _ _ (hHeld.2))).trans (hHeld.2)
                  refine ⟨_, rfl, ?_⟩
                  replace HO_7 := Aside0.mk (Kd.R_below (by (with_reducible repeat (first | apply Kd.R_alloc | apply Kd.R_drewN | apply Kd.R_drew)); exact HO_7.out) hb)
                  replace HO_9 := Aside0.mk (Kd.R_below (by (with_reducible repeat (first | apply Kd.R_alloc | apply Kd.R_drewN | apply Kd.R_drew)); exact HO_9.out) hb)
                  replace aa := Aside0.mk (k3e4e.q aa.out hb rfl)
                  replace HB := Aside0.mk (k3e4e.z HB.out hb rfl rfl rfl rfl)
                  (try clear hb)
                  (try clear ai)
                  (try clear hk)
                  (try clear hi)
                  refine hK.out _ _ ⟨HS0_, HS1_⟩ (fun hHeld => ?_)
                  clear hK K
                  refine norm_ (a' := ?_) ?_ ?_
                  rotate_left
                  ·show Act.put _ (some 93) _ = _
                   simp only [Act.put, List.setIfInBounds_toArray, List.set_cons_zero, List.set_cons_succ, i64_w]
                   rfl
                  refine pure_ (i := 12) (N := some 94) (v := ?_) (a' := ?_) #[true, true, true, true, true, true, true, true, true, true, true, true, true, false, false, false, false, false, false, false, false, false] rfl rfl (any_of HT_.out (by kernel_rfl)) (fun _ _ _ h => h) (Or.inl ⟨by rfl, ?_⟩) ?_ ?_
                  rotate_left
                  ·intro w'
                   go_simp
                   with_reducible rfl
                  rotate_left
                  ·simp only [Act.put, List.setIfInBounds_toArray, List.set_cons_zero, List.set_cons_succ, i64_w]
                   rfl
                  refine pure_ (i := 13) (N := some 95) (v := undef) (a' := ?_) #[true, true, true, true, true, true, true, true, true, true, true, true, true, true, false, false, false, false, false, false, false, false] rfl rfl (any_of HT_.out (by kernel_rfl)) (fun _ _ _ h => h) (Or.inr ⟨by rfl, rfl⟩) ?_ ?_
                  rotate_left
                  ·simp only [Act.put, List.setIfInBounds_toArray, List.set_cons_zero, List.set_cons_succ, i64_w]
                   rfl
                  refine pure_ (i := 14) (N := some 96) (v := undef) (a' := ?_) #[true, true, true, true, true, true, true, true, true, true, true, true, true, true, true, false, false, false, false, false, false, false] rfl rfl (any_of HT_.out (by kernel_rfl)) (fun _ _ _ h => h) (Or.inr ⟨by rfl, rfl⟩) ?_ ?_
                  rotate_left
                  ·simp only [Act.put, List.setIfInBounds_toArray, List.set_cons_zero, List.set_cons_succ, i64_w]
                   rfl
                  refine pure_ (i := 15) (N := some 97) (v := undef) (a' := ?_) #[true, true, true, true, true, true, true, true, true, true, true, true, true, true, true, true, false, false, false, false, false, false] rfl rfl (any_of HT_.out (by kernel_rfl)) (fun _ _ _ h => h) (Or.inr ⟨by rfl, rfl⟩) ?_ ?_
                  rotate_left
                  ·simp only [Act.put, List.setIfInBounds_toArray, List.set_cons_zero, List.set_cons_succ, i64_w]
                   rfl
                  refine pure_ (i := 16) (N := some 98) (v := undef) (a' := ?_) #[true, true, true, true, true, true, true, true, true, true, true, true, true, true, true, true, true, false, false, false, false, false] rfl rfl (any_of HT_.out (by kernel_rfl)) (fun _ _ _ h => h) (Or.inr ⟨by rfl, rfl⟩) ?_ ?_
                  rotate_left
                  ·simp only [Act.put, List.setIfInBounds_toArray, List.set_cons_zero, List.set_cons_succ, i64_w]
                   rfl
                  refine pure_ (i := 17) (N := some 99) (v := undef) (a' := ?_) #[true, true, true, true, true, true, true, true, true, true, true, true, true, true, true, true, true, true, false, false, false, false] rfl rfl (any_of HT_.out (by kernel_rfl)) (fun _ _ _ h => h) (Or.inr ⟨by rfl, rfl⟩) ?_ ?_
                  rotate_left
                  ·simp only [Act.put, List.setIfInBounds_toArray, List.set_cons_zero, List.set_cons_succ, i64_w]
                   rfl
                  refine pure_ (i := 18) (N := some 100) (v := undef) (a' := ?_) #[true, true, true, true, true, true, true, true, true, true, true, true, true, true, true, true, true, true, true, false, false, false] rfl rfl (any_of HT_.out (by kernel_rfl)) (fun _ _ _ h => h) (Or.inr ⟨by rfl, rfl⟩) ?_ ?_
                  rotate_left
                  ·simp only [Act.put, List.setIfInBounds_toArray, List.set_cons_zero, List.set_cons_succ, i64_w]
                   rfl
                  refine pure_ (i := 19) (N := some 101) (v := undef) (a' := ?_) #[true, true, true, true, true, true, true, true, true, true, true, true, true, true, true, true, true, true, true, true, false, false] rfl rfl (any_of HT_.out (by kernel_rfl)) (fun _ _ _ h => h) (Or.inr ⟨by rfl, rfl⟩) ?_ ?_
                  rotate_left
                  ·simp only [Act.put, List.setIfInBounds_toArray, List.set_cons_zero, List.set_cons_succ, i64_w]
                   rfl
                  refine pure_ (i := 20) (N := some 102) (v := ?_) (a' := ?_) #[true, true, true, true, true, true, true, true, true, true, true, true, true, true, true, true, true, true, true, true, true, false] rfl rfl (any_of HT_.out (by kernel_rfl)) (fun _ _ _ h => h) (Or.inl ⟨by rfl, ?_⟩) ?_ ?_
                  rotate_left
                  ·intro w'
                   go_simp
                   with_reducible rfl
                  rotate_left
                  ·simp only [Act.put, List.setIfInBounds_toArray, List.set_cons_zero, List.set_cons_succ, i64_w]
                   rfl
                  refine pure_ (i := 21) (N := some 103) (v := ?_) (a' := ?_) #[true, true, true, true, true, true, true, true, true, true, true, true, true, true, true, true, true, true, true, true, true, true] rfl rfl (any_of HT_.out (by kernel_rfl)) (fun _ _ _ h => h) (Or.inl ⟨by rfl, ?_⟩) ?_ ?_
                  rotate_left
                  ·intro w'
                   go_simp
                   with_reducible rfl
                  rotate_left
                  ·simp only [Act.put, List.setIfInBounds_toArray, List.set_cons_zero, List.set_cons_succ, i64_w]
                   rfl
                  refine done_ (done_of HT_.out (by kernel_rfl)) ?_
                  try go_wp2
                  go_roundg k3
                  case measure => have := HJ3.out; have := HJ14.out; have := HK3.out; omega
                  case rel => exact ⟨(wrap64 (x10_3 + 1)), (by first | rfl | (simp; done) | (simp [*]; done)), H', ⟨by have := HJ3.out; have := HJ14.out; have := HK3.out; omega⟩, ⟨by (with_reducible repeat (first | apply Kd.R_alloc | apply Kd.R_drewN | apply Kd.R_drew)); exact HO_7.out⟩, ⟨by (with_reducible repeat (first | apply Kd.R_alloc | apply Kd.R_drewN | apply Kd.R_drew)); exact HO_9.out⟩, ⟨by (with_reducible repeat (first | refine blk_drewN ?_ _ | refine blk_drew ?_ | refine blk_alloc ?_ _)); exact aa.out⟩, ⟨by repeat (first | (with_reducible first | exact HB.out | apply below_alloc | apply pw_below_drewN | apply below_drew1) | exact HB.out)⟩⟩
               ·rw [if_neg c46] at H
                exact absurd H (by simp)
              ·rw [if_neg c45] at H
               have c45b0 : decide (x10_3 < (af.length : Int)) = false := decide_eq_false c45
               clear c45
               replace H := Option.bind_eq_some_iff.mp H
               obtain ⟨t428, A710, H⟩ := H
               replace H : (some t428) = some r := H
               have A71 := Aside0.mk A710
               clear A710
               obtain rfl := Option.some.inj H
               obtain ⟨Ao72, co72, eo72⟩ := Kd.R_slice HO_9.out
               subst eo72
               go_wp2_with (first | ((with_reducible refine gate_callee (f := 8) rfl ?_); refine goesL_ (some 104) rfl rfl Try.func8 (by kernel_rfl) rfl #[] rfl (by (try simp only [List.map_toArray, List.map_cons, List.map_nil]); first | done | rfl) ?_; (with_reducible refine (whirligiglaw01_lives.calls k3  t428 _ A71.out).mono ?_); rintro e w73 ⟨rfl, hb⟩; refine ⟨_, rfl, ?_⟩; replace HO_7 := Aside0.mk (Kd.R_below (by (with_reducible repeat (first | apply Kd.R_alloc | apply Kd.R_drewN | apply Kd.R_drew)); exact HO_7.out) hb); replace HO_9 := Aside0.mk (Kd.R_below (by (with_reducible repeat (first | apply Kd.R_alloc | apply Kd.R_drewN | apply Kd.R_drew)); exact HO_9.out) hb); replace aa := Aside0.mk (k3e4e.q aa.out hb rfl); replace HB := Aside0.mk (k3e4e.z HB.out hb rfl rfl rfl rfl); (try clear hb); (try clear ai); (try clear hk); (try clear hi)))
               go_ret
               exact ⟨by first | rfl | (simp [errW_none, errW_some] <;> rfl) | (simp [*, errW_none, errW_some] <;> rfl), by repeat (first | (with_reducible first | exact HB.out | apply below_alloc | apply pw_below_drewN | apply below_drew1) | exact HB.out)⟩
           ·rw [if_neg c31] at H
            exact absurd H (by simp)
          ·rw [if_neg c30] at H
           exact absurd H (by simp)
         ·rw [if_neg c28] at H
          exact absurd H (by simp)
     ·replace c14 := Bool.eq_false_iff.mpr c14
      subst c14
      have H1 := H
      rw [if_neg (show ¬ (false = true) by decide)] at H1
      clear H
      have H := H1
      clear H1
      by_cases ax : (t397.length : Int) = 0
      ·rw [if_pos ax] at H
       have c74b0 : ((t397.length : Int) == 0) = true := beq_iff_eq.mpr ax
       have c74b1 : ((t397.length : Int) != 0) = false := bne_eq_false_iff_eq.mpr ax
       clear ax
       by_cases c75 : t400 = 1
       ·rw [if_pos c75] at H
        have c75b0 : (t400 == 1) = true := beq_iff_eq.mpr c75
        have c75b1 : (t400 != 1) = false := bne_eq_false_iff_eq.mpr c75
        clear c75
        replace H := Option.bind_eq_some_iff.mp H
        obtain ⟨t405, A760, H⟩ := H
        replace H : (some t405) = some r := H
        have A76 := Aside0.mk A760
        clear A760
        obtain rfl := Option.some.inj H
        have hcz77_0 : wc.cell? ⟨ae, 0, none⟩ = some (.int .u32 ab) := (blk_cell aa.out 0).trans rfl
        have hcz77_1 : wc.cell? ⟨ae, 1, none⟩ = some (.int .i64 ac) := (blk_cell aa.out 1).trans rfl
        have hfz77_0 := blk_frozen aa.out 0
        have hfz77_1 := blk_frozen aa.out 1
        go_wp2_with (first | ((with_reducible refine gate_callee (f := 28) rfl ?_); refine goesL_ (some 23) rfl rfl Try.func28 (by kernel_rfl) rfl #[.slice A0 l0.length c0, .agg #[.int .u32 ab, .int .i64 ac]] rfl (by (try simp only [List.map_toArray, List.map_cons, List.map_nil]); first | done | rfl) ?_; (with_reducible refine (addr_Minus.calls ak _ _ l0 ab ac t397 t400 _ ?side1 ?side2 A10.out).mono ?_); (case side1 => repeat (first | exact (Kd.C_below ap.out HB.out) | (with_reducible refine Kd.C_alloc ?_ _) | (with_reducible refine Kd.C_drewN ?_ _) | (with_reducible refine Kd.C_drew ?_))); (case side2 => exact aq.out); rintro e w78 ⟨v398, rfl, ho0, hb⟩; refine ⟨_, rfl, ?_⟩; have ad := Aside0.mk (Kd.R_lower (Kd.R_newB ho0 (g := ae) (o := .cells #[.int .u32 ab, .int .i64 ac] 30 (0, 0)) (by (with_reducible repeat (first | refine blk_drewN ?_ _ | refine blk_drew ?_ | refine blk_alloc ?_ _)); exact aa.out)) (below_size (by repeat (first | (with_reducible first | exact HB.out | apply below_alloc | apply pw_below_drewN | apply below_drew1) | exact HB.out)))); replace aa := Aside0.mk (k3e4e.q aa.out hb rfl); replace HB := Aside0.mk (k3e4e.z HB.out hb rfl rfl rfl rfl); (try clear hb); (try clear ai); (try clear hk); (try clear hi); (try clear ho0)) | ((with_reducible refine gate_callee (f := 10) rfl ?_); refine goesL_ (some 27) rfl rfl Try.func10 (by kernel_rfl) rfl #[.slice A0 l0.length c0] rfl (by (try simp only [List.map_toArray, List.map_cons, List.map_nil]); first | done | rfl) ?_; (with_reducible refine (whirligigref01_Why.calls ak _ _ l0 t401 _ ?side1 ?side2 A11.out).mono ?_); (case side1 => repeat (first | exact (Kd.C_below ap.out HB.out) | (with_reducible refine Kd.C_alloc ?_ _) | (with_reducible refine Kd.C_drewN ?_ _) | (with_reducible refine Kd.C_drew ?_))); (case side2 => exact aq.out); rintro e w79 ⟨rfl, hb⟩; refine ⟨_, rfl, ?_⟩; replace ad := Aside0.mk (Kd.R_below (by (with_reducible repeat (first | apply Kd.R_alloc | apply Kd.R_drewN | apply Kd.R_drew)); exact ad.out) hb); replace aa := Aside0.mk (k3e4e.q aa.out hb rfl); replace HB := Aside0.mk (k3e4e.z HB.out hb rfl rfl rfl rfl); (try clear hb); (try clear ai); (try clear hk); (try clear hi); have hcz80_0 : w79.cell? ⟨ae, 0, none⟩ = some (.int .u32 ab) := (blk_cell aa.out 0).trans rfl; have hcz80_1 : w79.cell? ⟨ae, 1, none⟩ = some (.int .i64 ac) := (blk_cell aa.out 1).trans rfl; have hfz80_0 := blk_frozen aa.out 0; have hfz80_1 := blk_frozen aa.out 1) | ((with_reducible refine gate_callee (f := 15) rfl ?_); refine goesL_ (some 42) rfl rfl Try.func15 (by kernel_rfl) rfl #[.agg #[.int .u32 ab, .int .i64 ac]] rfl (by (try simp only [List.map_toArray, List.map_cons, List.map_nil]); first | done | rfl) ?_; (with_reducible refine (whirligigref01_May.calls ak ab ac false _ A13.out).mono ?_); rintro e w81 ⟨rfl, hb⟩; refine ⟨_, rfl, ?_⟩; replace ad := Aside0.mk (Kd.R_below (by (with_reducible repeat (first | apply Kd.R_alloc | apply Kd.R_drewN | apply Kd.R_drew)); exact ad.out) hb); replace aa := Aside0.mk (k3e4e.q aa.out hb rfl); replace HB := Aside0.mk (k3e4e.z HB.out hb rfl rfl rfl rfl); (try clear hb); (try clear ai); (try clear hk); (try clear hi); obtain ⟨Ao82, co82, eo82⟩ := Kd.R_slice ad.out; subst eo82) | (go_at_call 8; (with_reducible refine (whirligiglaw01_lives.calls ak  t405 _ A76.out).mono ?_); rintro e w83 ⟨rfl, hb⟩; replace ad := Aside0.mk (Kd.R_below (by (with_reducible repeat (first | apply Kd.R_alloc | apply Kd.R_drewN | apply Kd.R_drew)); exact ad.out) hb); replace aa := Aside0.mk (k3e4e.q aa.out hb rfl); replace HB := Aside0.mk (k3e4e.z HB.out hb rfl rfl rfl rfl); (try clear hb); (try clear ai); (try clear hk); (try clear hi)))
        go_ret
        exact ⟨by first | rfl | (simp [errW_none, errW_some] <;> rfl) | (simp [*, errW_none, errW_some] <;> rfl), by repeat (first | (with_reducible first | exact HB.out | apply below_alloc | apply pw_below_drewN | apply below_drew1) | exact HB.out)⟩
       ·rw [if_neg c75] at H
        have c75b0 : (t400 == 1) = false := beq_eq_false_iff_ne.mpr c75
        have c75b1 : (t400 != 1) = true := bne_iff_ne.mpr c75
        obtain rfl := Option.some.inj H
        have hcz84_0 : wc.cell? ⟨ae, 0, none⟩ = some (.int .u32 ab) := (blk_cell aa.out 0).trans rfl
        have hcz84_1 : wc.cell? ⟨ae, 1, none⟩ = some (.int .i64 ac) := (blk_cell aa.out 1).trans rfl
        have hfz84_0 := blk_frozen aa.out 0
        have hfz84_1 := blk_frozen aa.out 1
        go_wp2_with (first | ((with_reducible refine gate_callee (f := 28) rfl ?_); refine goesL_ (some 23) rfl rfl Try.func28 (by kernel_rfl) rfl #[.slice A0 l0.length c0, .agg #[.int .u32 ab, .int .i64 ac]] rfl (by (try simp only [List.map_toArray, List.map_cons, List.map_nil]); first | done | rfl) ?_; (with_reducible refine (addr_Minus.calls ak _ _ l0 ab ac t397 t400 _ ?side1 ?side2 A10.out).mono ?_); (case side1 => repeat (first | exact (Kd.C_below ap.out HB.out) | (with_reducible refine Kd.C_alloc ?_ _) | (with_reducible refine Kd.C_drewN ?_ _) | (with_reducible refine Kd.C_drew ?_))); (case side2 => exact aq.out); rintro e w85 ⟨v398, rfl, ho0, hb⟩; refine ⟨_, rfl, ?_⟩; have ad := Aside0.mk (Kd.R_lower (Kd.R_newB ho0 (g := ae) (o := .cells #[.int .u32 ab, .int .i64 ac] 30 (0, 0)) (by (with_reducible repeat (first | refine blk_drewN ?_ _ | refine blk_drew ?_ | refine blk_alloc ?_ _)); exact aa.out)) (below_size (by repeat (first | (with_reducible first | exact HB.out | apply below_alloc | apply pw_below_drewN | apply below_drew1) | exact HB.out)))); replace aa := Aside0.mk (k3e4e.q aa.out hb rfl); replace HB := Aside0.mk (k3e4e.z HB.out hb rfl rfl rfl rfl); (try clear hb); (try clear ai); (try clear hk); (try clear hi); (try clear ho0)) | ((with_reducible refine gate_callee (f := 10) rfl ?_); refine goesL_ (some 27) rfl rfl Try.func10 (by kernel_rfl) rfl #[.slice A0 l0.length c0] rfl (by (try simp only [List.map_toArray, List.map_cons, List.map_nil]); first | done | rfl) ?_; (with_reducible refine (whirligigref01_Why.calls ak _ _ l0 t401 _ ?side1 ?side2 A11.out).mono ?_); (case side1 => repeat (first | exact (Kd.C_below ap.out HB.out) | (with_reducible refine Kd.C_alloc ?_ _) | (with_reducible refine Kd.C_drewN ?_ _) | (with_reducible refine Kd.C_drew ?_))); (case side2 => exact aq.out); rintro e w86 ⟨rfl, hb⟩; refine ⟨_, rfl, ?_⟩; replace ad := Aside0.mk (Kd.R_below (by (with_reducible repeat (first | apply Kd.R_alloc | apply Kd.R_drewN | apply Kd.R_drew)); exact ad.out) hb); replace aa := Aside0.mk (k3e4e.q aa.out hb rfl); replace HB := Aside0.mk (k3e4e.z HB.out hb rfl rfl rfl rfl); (try clear hb); (try clear ai); (try clear hk); (try clear hi); have hcz87_0 : w86.cell? ⟨ae, 0, none⟩ = some (.int .u32 ab) := (blk_cell aa.out 0).trans rfl; have hcz87_1 : w86.cell? ⟨ae, 1, none⟩ = some (.int .i64 ac) := (blk_cell aa.out 1).trans rfl; have hfz87_0 := blk_frozen aa.out 0; have hfz87_1 := blk_frozen aa.out 1) | ((with_reducible refine gate_callee (f := 15) rfl ?_); refine goesL_ (some 42) rfl rfl Try.func15 (by kernel_rfl) rfl #[.agg #[.int .u32 ab, .int .i64 ac]] rfl (by (try simp only [List.map_toArray, List.map_cons, List.map_nil]); first | done | rfl) ?_; (with_reducible refine (whirligigref01_May.calls ak ab ac false _ A13.out).mono ?_); rintro e w88 ⟨rfl, hb⟩; refine ⟨_, rfl, ?_⟩; replace ad := Aside0.mk (Kd.R_below (by (with_reducible repeat (first | apply Kd.R_alloc | apply Kd.R_drewN | apply Kd.R_drew)); exact ad.out) hb); replace aa := Aside0.mk (k3e4e.q aa.out hb rfl); replace HB := Aside0.mk (k3e4e.z HB.out hb rfl rfl rfl rfl); (try clear hb); (try clear ai); (try clear hk); (try clear hi); obtain ⟨Ao89, co89, eo89⟩ := Kd.R_slice ad.out; subst eo89))
        go_ret
        exact ⟨by first | rfl | (simp [errW_none, errW_some] <;> rfl) | (simp [*, errW_none, errW_some] <;> rfl), by repeat (first | (with_reducible first | exact HB.out | apply below_alloc | apply pw_below_drewN | apply below_drew1) | exact HB.out)⟩
      ·rw [if_neg ax] at H
       have c74b0 : ((t397.length : Int) == 0) = false := beq_eq_false_iff_ne.mpr ax
       have c74b1 : ((t397.length : Int) != 0) = true := bne_iff_ne.mpr ax
       have c74b2 : ¬ (t397 = []) := fun h_ => ax (by rw [h_]; rfl)
       obtain rfl := Option.some.inj H
       have hcz90_0 : wc.cell? ⟨ae, 0, none⟩ = some (.int .u32 ab) := (blk_cell aa.out 0).trans rfl
       have hcz90_1 : wc.cell? ⟨ae, 1, none⟩ = some (.int .i64 ac) := (blk_cell aa.out 1).trans rfl
       have hfz90_0 := blk_frozen aa.out 0
       have hfz90_1 := blk_frozen aa.out 1
       go_wp2_with (first | ((with_reducible refine gate_callee (f := 28) rfl ?_); refine goesL_ (some 23) rfl rfl Try.func28 (by kernel_rfl) rfl #[.slice A0 l0.length c0, .agg #[.int .u32 ab, .int .i64 ac]] rfl (by (try simp only [List.map_toArray, List.map_cons, List.map_nil]); first | done | rfl) ?_; (with_reducible refine (addr_Minus.calls ak _ _ l0 ab ac t397 t400 _ ?side1 ?side2 A10.out).mono ?_); (case side1 => repeat (first | exact (Kd.C_below ap.out HB.out) | (with_reducible refine Kd.C_alloc ?_ _) | (with_reducible refine Kd.C_drewN ?_ _) | (with_reducible refine Kd.C_drew ?_))); (case side2 => exact aq.out); rintro e w91 ⟨v398, rfl, ho0, hb⟩; refine ⟨_, rfl, ?_⟩; have ad := Aside0.mk (Kd.R_lower (Kd.R_newB ho0 (g := ae) (o := .cells #[.int .u32 ab, .int .i64 ac] 30 (0, 0)) (by (with_reducible repeat (first | refine blk_drewN ?_ _ | refine blk_drew ?_ | refine blk_alloc ?_ _)); exact aa.out)) (below_size (by repeat (first | (with_reducible first | exact HB.out | apply below_alloc | apply pw_below_drewN | apply below_drew1) | exact HB.out)))); replace aa := Aside0.mk (k3e4e.q aa.out hb rfl); replace HB := Aside0.mk (k3e4e.z HB.out hb rfl rfl rfl rfl); (try clear hb); (try clear ai); (try clear hk); (try clear hi); (try clear ho0)) | ((with_reducible refine gate_callee (f := 10) rfl ?_); refine goesL_ (some 27) rfl rfl Try.func10 (by kernel_rfl) rfl #[.slice A0 l0.length c0] rfl (by (try simp only [List.map_toArray, List.map_cons, List.map_nil]); first | done | rfl) ?_; (with_reducible refine (whirligigref01_Why.calls ak _ _ l0 t401 _ ?side1 ?side2 A11.out).mono ?_); (case side1 => repeat (first | exact (Kd.C_below ap.out HB.out) | (with_reducible refine Kd.C_alloc ?_ _) | (with_reducible refine Kd.C_drewN ?_ _) | (with_reducible refine Kd.C_drew ?_))); (case side2 => exact aq.out); rintro e w92 ⟨rfl, hb⟩; refine ⟨_, rfl, ?_⟩; replace ad := Aside0.mk (Kd.R_below (by (with_reducible repeat (first | apply Kd.R_alloc | apply Kd.R_drewN | apply Kd.R_drew)); exact ad.out) hb); replace aa := Aside0.mk (k3e4e.q aa.out hb rfl); replace HB := Aside0.mk (k3e4e.z HB.out hb rfl rfl rfl rfl); (try clear hb); (try clear ai); (try clear hk); (try clear hi); have hcz93_0 : w92.cell? ⟨ae, 0, none⟩ = some (.int .u32 ab) := (blk_cell aa.out 0).trans rfl; have hcz93_1 : w92.cell? ⟨ae, 1, none⟩ = some (.int .i64 ac) := (blk_cell aa.out 1).trans rfl; have hfz93_0 := blk_frozen aa.out 0; have hfz93_1 := blk_frozen aa.out 1) | ((with_reducible refine gate_callee (f := 15) rfl ?_); refine goesL_ (some 42) rfl rfl Try.func15 (by kernel_rfl) rfl #[.agg #[.int .u32 ab, .int .i64 ac]] rfl (by (try simp only [List.map_toArray, List.map_cons, List.map_nil]); first | done | rfl) ?_; (with_reducible refine (whirligigref01_May.calls ak ab ac false _ A13.out).mono ?_); rintro e w94 ⟨rfl, hb⟩; refine ⟨_, rfl, ?_⟩; replace ad := Aside0.mk (Kd.R_below (by (with_reducible repeat (first | apply Kd.R_alloc | apply Kd.R_drewN | apply Kd.R_drew)); exact ad.out) hb); replace aa := Aside0.mk (k3e4e.q aa.out hb rfl); replace HB := Aside0.mk (k3e4e.z HB.out hb rfl rfl rfl rfl); (try clear hb); (try clear ai); (try clear hk); (try clear hi); obtain ⟨Ao95, co95, eo95⟩ := Kd.R_slice ad.out; subst eo95))
       go_ret
       exact ⟨by first | rfl | (simp [errW_none, errW_some] <;> rfl) | (simp [*, errW_none, errW_some] <;> rfl), by repeat (first | (with_reducible first | exact HB.out | apply below_alloc | apply pw_below_drewN | apply below_drew1) | exact HB.out)⟩
    ·rw [if_neg av] at H
     have c12b0 : (t401 == 0) = false := beq_eq_false_iff_ne.mpr av
     have c12b1 : (t401 != 0) = true := bne_iff_ne.mpr av
     by_cases ay : (t397.length : Int) = 0
     ·rw [if_pos ay] at H
      have c96b0 : ((t397.length : Int) == 0) = true := beq_iff_eq.mpr ay
      have c96b1 : ((t397.length : Int) != 0) = false := bne_eq_false_iff_eq.mpr ay
      clear ay
      replace H := Option.bind_eq_some_iff.mp H
      obtain ⟨t402, A970, H⟩ := H
      (try dsimp only at H)
      have A97 := Aside0.mk A970
      clear A970
      by_cases c98 : t400 = t402
      ·rw [if_pos c98] at H
       have c98b0 : (t400 == t402) = true := beq_iff_eq.mpr c98
       have c98b1 : (t400 != t402) = false := bne_eq_false_iff_eq.mpr c98
       clear c98
       replace H := Option.bind_eq_some_iff.mp H
       obtain ⟨t403, A990, H⟩ := H
       replace H : (some t403) = some r := H
       have A99 := Aside0.mk A990
       clear A990
       obtain rfl := Option.some.inj H
       have hcz100_0 : wc.cell? ⟨ae, 0, none⟩ = some (.int .u32 ab) := (blk_cell aa.out 0).trans rfl
       have hcz100_1 : wc.cell? ⟨ae, 1, none⟩ = some (.int .i64 ac) := (blk_cell aa.out 1).trans rfl
       have hfz100_0 := blk_frozen aa.out 0
       have hfz100_1 := blk_frozen aa.out 1
       go_wp2_with (first | ((with_reducible refine gate_callee (f := 28) rfl ?_); refine goesL_ (some 23) rfl rfl Try.func28 (by kernel_rfl) rfl #[.slice A0 l0.length c0, .agg #[.int .u32 ab, .int .i64 ac]] rfl (by (try simp only [List.map_toArray, List.map_cons, List.map_nil]); first | done | rfl) ?_; (with_reducible refine (addr_Minus.calls ak _ _ l0 ab ac t397 t400 _ ?side1 ?side2 A10.out).mono ?_); (case side1 => repeat (first | exact (Kd.C_below ap.out HB.out) | (with_reducible refine Kd.C_alloc ?_ _) | (with_reducible refine Kd.C_drewN ?_ _) | (with_reducible refine Kd.C_drew ?_))); (case side2 => exact aq.out); rintro e w101 ⟨v398, rfl, ho0, hb⟩; refine ⟨_, rfl, ?_⟩; have ad := Aside0.mk (Kd.R_lower (Kd.R_newB ho0 (g := ae) (o := .cells #[.int .u32 ab, .int .i64 ac] 30 (0, 0)) (by (with_reducible repeat (first | refine blk_drewN ?_ _ | refine blk_drew ?_ | refine blk_alloc ?_ _)); exact aa.out)) (below_size (by repeat (first | (with_reducible first | exact HB.out | apply below_alloc | apply pw_below_drewN | apply below_drew1) | exact HB.out)))); replace aa := Aside0.mk (k3e4e.q aa.out hb rfl); replace HB := Aside0.mk (k3e4e.z HB.out hb rfl rfl rfl rfl); (try clear hb); (try clear ai); (try clear hk); (try clear hi); (try clear ho0)) | ((with_reducible refine gate_callee (f := 10) rfl ?_); refine goesL_ (some 27) rfl rfl Try.func10 (by kernel_rfl) rfl #[.slice A0 l0.length c0] rfl (by (try simp only [List.map_toArray, List.map_cons, List.map_nil]); first | done | rfl) ?_; (with_reducible refine (whirligigref01_Why.calls ak _ _ l0 t401 _ ?side1 ?side2 A11.out).mono ?_); (case side1 => repeat (first | exact (Kd.C_below ap.out HB.out) | (with_reducible refine Kd.C_alloc ?_ _) | (with_reducible refine Kd.C_drewN ?_ _) | (with_reducible refine Kd.C_drew ?_))); (case side2 => exact aq.out); rintro e w102 ⟨rfl, hb⟩; refine ⟨_, rfl, ?_⟩; replace ad := Aside0.mk (Kd.R_below (by (with_reducible repeat (first | apply Kd.R_alloc | apply Kd.R_drewN | apply Kd.R_drew)); exact ad.out) hb); replace aa := Aside0.mk (k3e4e.q aa.out hb rfl); replace HB := Aside0.mk (k3e4e.z HB.out hb rfl rfl rfl rfl); (try clear hb); (try clear ai); (try clear hk); (try clear hi); obtain ⟨Ao103, co103, eo103⟩ := Kd.R_slice ad.out; subst eo103) | (go_at_call 10; (with_reducible refine (whirligigref01_Why.calls ak _ _ l0 t402 _ ?side1 ?side2 A97.out).mono ?_); (case side1 => repeat (first | exact (Kd.C_below ap.out HB.out) | (with_reducible refine Kd.C_alloc ?_ _) | (with_reducible refine Kd.C_drewN ?_ _) | (with_reducible refine Kd.C_drew ?_))); (case side2 => exact aq.out); rintro e w104 ⟨rfl, hb⟩; replace ad := Aside0.mk (Kd.R_below (by (with_reducible repeat (first | apply Kd.R_alloc | apply Kd.R_drewN | apply Kd.R_drew)); exact ad.out) hb); replace aa := Aside0.mk (k3e4e.q aa.out hb rfl); replace HB := Aside0.mk (k3e4e.z HB.out hb rfl rfl rfl rfl); (try clear hb); (try clear ai); (try clear hk); (try clear hi)) | (go_at_call 8; (with_reducible refine (whirligiglaw01_lives.calls ak  t403 _ A99.out).mono ?_); rintro e w105 ⟨rfl, hb⟩; replace ad := Aside0.mk (Kd.R_below (by (with_reducible repeat (first | apply Kd.R_alloc | apply Kd.R_drewN | apply Kd.R_drew)); exact ad.out) hb); replace aa := Aside0.mk (k3e4e.q aa.out hb rfl); replace HB := Aside0.mk (k3e4e.z HB.out hb rfl rfl rfl rfl); (try clear hb); (try clear ai); (try clear hk); (try clear hi)))
       go_ret
       exact ⟨by first | rfl | (simp [errW_none, errW_some] <;> rfl) | (simp [*, errW_none, errW_some] <;> rfl), by repeat (first | (with_reducible first | exact HB.out | apply below_alloc | apply pw_below_drewN | apply below_drew1) | exact HB.out)⟩
      ·rw [if_neg c98] at H
       have c98b0 : (t400 == t402) = false := beq_eq_false_iff_ne.mpr c98
       have c98b1 : (t400 != t402) = true := bne_iff_ne.mpr c98
       obtain rfl := Option.some.inj H
       have hcz106_0 : wc.cell? ⟨ae, 0, none⟩ = some (.int .u32 ab) := (blk_cell aa.out 0).trans rfl
       have hcz106_1 : wc.cell? ⟨ae, 1, none⟩ = some (.int .i64 ac) := (blk_cell aa.out 1).trans rfl
       have hfz106_0 := blk_frozen aa.out 0
       have hfz106_1 := blk_frozen aa.out 1
       go_wp2_with (first | ((with_reducible refine gate_callee (f := 28) rfl ?_); refine goesL_ (some 23) rfl rfl Try.func28 (by kernel_rfl) rfl #[.slice A0 l0.length c0, .agg #[.int .u32 ab, .int .i64 ac]] rfl (by (try simp only [List.map_toArray, List.map_cons, List.map_nil]); first | done | rfl) ?_; (with_reducible refine (addr_Minus.calls ak _ _ l0 ab ac t397 t400 _ ?side1 ?side2 A10.out).mono ?_); (case side1 => repeat (first | exact (Kd.C_below ap.out HB.out) | (with_reducible refine Kd.C_alloc ?_ _) | (with_reducible refine Kd.C_drewN ?_ _) | (with_reducible refine Kd.C_drew ?_))); (case side2 => exact aq.out); rintro e w107 ⟨v398, rfl, ho0, hb⟩; refine ⟨_, rfl, ?_⟩; have ad := Aside0.mk (Kd.R_lower (Kd.R_newB ho0 (g := ae) (o := .cells #[.int .u32 ab, .int .i64 ac] 30 (0, 0)) (by (with_reducible repeat (first | refine blk_drewN ?_ _ | refine blk_drew ?_ | refine blk_alloc ?_ _)); exact aa.out)) (below_size (by repeat (first | (with_reducible first | exact HB.out | apply below_alloc | apply pw_below_drewN | apply below_drew1) | exact HB.out)))); replace aa := Aside0.mk (k3e4e.q aa.out hb rfl); replace HB := Aside0.mk (k3e4e.z HB.out hb rfl rfl rfl rfl); (try clear hb); (try clear ai); (try clear hk); (try clear hi); (try clear ho0)) | ((with_reducible refine gate_callee (f := 10) rfl ?_); refine goesL_ (some 27) rfl rfl Try.func10 (by kernel_rfl) rfl #[.slice A0 l0.length c0] rfl (by (try simp only [List.map_toArray, List.map_cons, List.map_nil]); first | done | rfl) ?_; (with_reducible refine (whirligigref01_Why.calls ak _ _ l0 t401 _ ?side1 ?side2 A11.out).mono ?_); (case side1 => repeat (first | exact (Kd.C_below ap.out HB.out) | (with_reducible refine Kd.C_alloc ?_ _) | (with_reducible refine Kd.C_drewN ?_ _) | (with_reducible refine Kd.C_drew ?_))); (case side2 => exact aq.out); rintro e w108 ⟨rfl, hb⟩; refine ⟨_, rfl, ?_⟩; replace ad := Aside0.mk (Kd.R_below (by (with_reducible repeat (first | apply Kd.R_alloc | apply Kd.R_drewN | apply Kd.R_drew)); exact ad.out) hb); replace aa := Aside0.mk (k3e4e.q aa.out hb rfl); replace HB := Aside0.mk (k3e4e.z HB.out hb rfl rfl rfl rfl); (try clear hb); (try clear ai); (try clear hk); (try clear hi); obtain ⟨Ao109, co109, eo109⟩ := Kd.R_slice ad.out; subst eo109) | (go_at_call 10; (with_reducible refine (whirligigref01_Why.calls ak _ _ l0 t402 _ ?side1 ?side2 A97.out).mono ?_); (case side1 => repeat (first | exact (Kd.C_below ap.out HB.out) | (with_reducible refine Kd.C_alloc ?_ _) | (with_reducible refine Kd.C_drewN ?_ _) | (with_reducible refine Kd.C_drew ?_))); (case side2 => exact aq.out); rintro e w110 ⟨rfl, hb⟩; replace ad := Aside0.mk (Kd.R_below (by (with_reducible repeat (first | apply Kd.R_alloc | apply Kd.R_drewN | apply Kd.R_drew)); exact ad.out) hb); replace aa := Aside0.mk (k3e4e.q aa.out hb rfl); replace HB := Aside0.mk (k3e4e.z HB.out hb rfl rfl rfl rfl); (try clear hb); (try clear ai); (try clear hk); (try clear hi)))
       go_ret
       exact ⟨by first | rfl | (simp [errW_none, errW_some] <;> rfl) | (simp [*, errW_none, errW_some] <;> rfl), by repeat (first | (with_reducible first | exact HB.out | apply below_alloc | apply pw_below_drewN | apply below_drew1) | exact HB.out)⟩
     ·rw [if_neg ay] at H
      have c96b0 : ((t397.length : Int) == 0) = false := beq_eq_false_iff_ne.mpr ay
      have c96b1 : ((t397.length : Int) != 0) = true := bne_iff_ne.mpr ay
      have c96b2 : ¬ (t397 = []) := fun h_ => ay (by rw [h_]; rfl)
      obtain rfl := Option.some.inj H
      have hcz111_0 : wc.cell? ⟨ae, 0, none⟩ = some (.int .u32 ab) := (blk_cell aa.out 0).trans rfl
      have hcz111_1 : wc.cell? ⟨ae, 1, none⟩ = some (.int .i64 ac) := (blk_cell aa.out 1).trans rfl
      have hfz111_0 := blk_frozen aa.out 0
      have hfz111_1 := blk_frozen aa.out 1
      go_wp2_with (first | ((with_reducible refine gate_callee (f := 28) rfl ?_); refine goesL_ (some 23) rfl rfl Try.func28 (by kernel_rfl) rfl #[.slice A0 l0.length c0, .agg #[.int .u32 ab, .int .i64 ac]] rfl (by (try simp only [List.map_toArray, List.map_cons, List.map_nil]); first | done | rfl) ?_; (with_reducible refine (addr_Minus.calls ak _ _ l0 ab ac t397 t400 _ ?side1 ?side2 A10.out).mono ?_); (case side1 => repeat (first | exact (Kd.C_below ap.out HB.out) | (with_reducible refine Kd.C_alloc ?_ _) | (with_reducible refine Kd.C_drewN ?_ _) | (with_reducible refine Kd.C_drew ?_))); (case side2 => exact aq.out); rintro e w112 ⟨v398, rfl, ho0, hb⟩; refine ⟨_, rfl, ?_⟩; have ad := Aside0.mk (Kd.R_lower (Kd.R_newB ho0 (g := ae) (o := .cells #[.int .u32 ab, .int .i64 ac] 30 (0, 0)) (by (with_reducible repeat (first | refine blk_drewN ?_ _ | refine blk_drew ?_ | refine blk_alloc ?_ _)); exact aa.out)) (below_size (by repeat (first | (with_reducible first | exact HB.out | apply below_alloc | apply pw_below_drewN | apply below_drew1) | exact HB.out)))); replace aa := Aside0.mk (k3e4e.q aa.out hb rfl); replace HB := Aside0.mk (k3e4e.z HB.out hb rfl rfl rfl rfl); (try clear hb); (try clear ai); (try clear hk); (try clear hi); (try clear ho0)) | ((with_reducible refine gate_callee (f := 10) rfl ?_); refine goesL_ (some 27) rfl rfl Try.func10 (by kernel_rfl) rfl #[.slice A0 l0.length c0] rfl (by (try simp only [List.map_toArray, List.map_cons, List.map_nil]); first | done | rfl) ?_; (with_reducible refine (whirligigref01_Why.calls ak _ _ l0 t401 _ ?side1 ?side2 A11.out).mono ?_); (case side1 => repeat (first | exact (Kd.C_below ap.out HB.out) | (with_reducible refine Kd.C_alloc ?_ _) | (with_reducible refine Kd.C_drewN ?_ _) | (with_reducible refine Kd.C_drew ?_))); (case side2 => exact aq.out); rintro e w113 ⟨rfl, hb⟩; refine ⟨_, rfl, ?_⟩; replace ad := Aside0.mk (Kd.R_below (by (with_reducible repeat (first | apply Kd.R_alloc | apply Kd.R_drewN | apply Kd.R_drew)); exact ad.out) hb); replace aa := Aside0.mk (k3e4e.q aa.out hb rfl); replace HB := Aside0.mk (k3e4e.z HB.out hb rfl rfl rfl rfl); (try clear hb); (try clear ai); (try clear hk); (try clear hi); obtain ⟨Ao114, co114, eo114⟩ := Kd.R_slice ad.out; subst eo114))
      go_ret
      exact ⟨by first | rfl | (simp [errW_none, errW_some] <;> rfl) | (simp [*, errW_none, errW_some] <;> rfl), by repeat (first | (with_reducible first | exact HB.out | apply below_alloc | apply pw_below_drewN | apply below_drew1) | exact HB.out)⟩

end Go.Proofs.Ytckffheolnmcnaa.P

end
section
set_option linter.unusedVariables false
set_option linter.unusedSimpArgs false
namespace Go.Proofs.Ytckffheolnmcnaa
open Go.ChangeShapes Go.WideShapes Go.Proofs.YtckffheolnmcnaaW.PrintWords Go.Proofs.YtckffheolnmcnaaW.PrintLast Go.Proofs.YtckffheolnmcnaaW.PrintMore

/-- the ints of a kind -/
def okI (k : IntKind) (n : Int) : Prop := (Lit.int k n).wf = true
def okL {α : Type} (B : Nat) (ok : α → Prop) (l : List α) : Prop := l.length * B ≤ 140737488351232 ∧ ∀ x, x ∈ l → ok x
theorem okI_u32 {n : Int} (h : okI .u32 n) : 0 ≤ n ∧ n ≤ 4294967295 := by
  unfold okI Lit.wf at h; simp [IntKind.min, IntKind.max, IntKind.bits, IntKind.signed] at h; omega
/-- A reading of a type. -/
structure RV (P : Program) (t : TypeId) (α : Type) (d : Kd α) where
  ok : α → Prop
  sz : P.cellsOf t = d.sz
  opens : ∀ {H : Type} {enc : TypeId × Value → H} {w : World} {base : Nat} {spare : Nat → Bool} {held : Bool} {fuel : Nat} {cs : List Value} {x : DataW H × List MemPlace},
    DataW.trod enc P w base spare held fuel t cs = some x → (x.1.weights P t).all (· ≤ reachBytes) = true → ∃ a, d.K w a cs ∧ ok a
/-- A reading of a stretch of fields. -/
structure RF (P : Program) (fs : List Field) (off : Nat) (α : Type) where
  K : World → α → List Value → Prop
  ok : α → Prop
  opens : ∀ {H : Type} {enc : TypeId × Value → H} {w : World} {base : Nat} {spare : Nat → Bool} {held : Bool} {fuel : Nat} {cs : List Value} {ds : List (DataW H × List MemPlace)}, off ≤ cs.length →
    (∀ f, f ∈ fs → f.offset + P.cellsOf f.type ≤ cs.length) → (∀ (i : Nat) (f : Field), fs[i]? = some f → ∃ y, ds[i]? = some y ∧ DataW.trod enc P w base spare held fuel f.type ((cs.drop f.offset).take (P.cellsOf f.type)) = some y) →
    (DataW.weightsEach P (fs.map (·.type)) (ds.map (·.1))).all (· ≤ reachBytes) = true →
    (fs = [] → cs.length = off) → (∀ f, fs.getLast? = some f → f.offset + P.cellsOf f.type = cs.length) → ∃ a, K w a (cs.drop off) ∧ ok a

section
variable {P : Program} {t e : TypeId} {α β : Type} {d : Kd α}
def rInt (k : IntKind) (ht : P.underlying t = some (.int k)) (hc : P.cellsOf t = 1) : RV P t Int (Kd.int k) where
  ok := okI k
  sz := hc
  opens := fun h _ => by obtain ⟨n, h1, _, h3⟩ := DataW.trod_int ht h; exact ⟨n, h1, h3⟩
theorem RV.list_of_lt {n : Nat} {p : Nat → α → Prop} (h : ∀ i, i < n → ∃ x, p i x) : ∃ l : List α, l.length = n ∧ ∀ i x, l[i]? = some x → p i x := by
  rcases Nat.eq_zero_or_pos n with rfl | hn
  · exact ⟨[], rfl, fun i x hx => by simp at hx⟩
  · haveI : Inhabited α := ⟨Classical.choose (h 0 hn)⟩
    obtain ⟨f, hf⟩ := Go.Deep.choose_lt h
    refine ⟨(List.range n).map f, by simp, fun i x hx => ?_⟩
    have hi : i < n := by have := (List.getElem?_eq_some_iff.1 hx).1; simpa using this
    have e : ((List.range n).map f)[i]? = some (f i) := by simp [hi]
    rw [e] at hx
    cases hx
    exact hf i hi
theorem add_add_ (a : Addr) (p q : Nat) : (a.add p).add q = a.add (p + q) := by
  unfold Addr.add
  by_cases hp : p = 0
  · subst hp; simp
  · by_cases hq : q = 0
    · subst hq; simp [hp]
    · have : p + q ≠ 0 := by omega
      simp [hp, hq, this, Nat.add_assoc]
theorem weights_elem {H : Type} {P : Program} {e : TypeId} {l : List (DataW H)} {B : Nat} (h : (DataW.weightsAll P e l).all (· ≤ B) = true) {x : DataW H} (hx : x ∈ l) : (x.weights P e).all (· ≤ B) = true := by
  induction l with
  | nil => simp at hx
  | cons y l ih =>
    rw [DataW.weightsAll, List.all_append, Bool.and_eq_true] at h
    rcases List.mem_cons.1 hx with rfl | hx
    · exact h.1
    · exact ih h.2 hx
def rSlice {B : Nat} (ht : P.underlying t = some (.slice e)) (hc : P.cellsOf t = 1) (hB : P.bytesOf e = B) (hp : 0 < d.sz) (hB1 : 1 ≤ B) (V : RV P e α d) : RV P t (List α) (Kd.slice e d) where
  ok := okL B V.ok
  sz := hc
  opens := fun {H enc w base spare held fuel cs x} h hw => by
    rcases Go.Deep.open_slice ht h with ⟨h0, _⟩ | ⟨a, len, cap, m, f, D, Pl, h1, hb, hl, hm, hmm, hx, hcc⟩
    · exact ⟨[], ⟨none, 0, h0, Nat.le_refl _, ⟨rfl, by simp, fun h => absurd h (by simp)⟩⟩, by simp [okL]⟩
    · have hlm : len ≤ m := by rw [hmm]; split <;> omega
      have hw' := hw
      rw [hx] at hw'
      simp only [DataW.weights, ht, List.all_cons, List.length_map, List.length_range, Bool.and_eq_true, List.all_append] at hw'
      obtain ⟨w1, w2, _⟩ := hw'
      have w1' : (len + (m - len)) * B ≤ 140737488351232 := by rw [← hB]; exact of_decide_eq_true w1
      have one : ∀ i, i < len → ∃ x, ∃ cs', cs'.length = d.sz ∧ (∀ j u, cs'[j]? = some u → w.cell? (a.add (i * d.sz + j)) = some u) ∧ d.K w x cs' ∧ V.ok x := by
        intro i hi
        obtain ⟨cs', k1, k2⟩ := hcc i (by omega)
        obtain ⟨_, hlen, hcell⟩ := World.cells?_some k1
        have hwi := weights_elem w2 (List.mem_map.2 ⟨i, List.mem_range.2 hi, rfl⟩)
        obtain ⟨y, hy, hok⟩ := V.opens k2 hwi
        rw [V.sz] at hlen hcell
        refine ⟨y, cs', hlen, fun j u hj => ?_, hy, hok⟩
        have hj' : j < d.sz := by have := (List.getElem?_eq_some_iff.1 hj).1; omega
        have := hcell j hj'
        rw [add_add_, hj] at this
        exact this
      obtain ⟨l, hl', hall⟩ := RV.list_of_lt one
      have hlb : len ≤ 9223372036854775807 := by
        have : len * 1 ≤ (len + (m - len)) * B := Nat.mul_le_mul (by omega) hB1
        omega
      refine ⟨l, ⟨some a, cap, by rw [h1, hl'], by omega, ⟨rfl, by omega, fun _ => ⟨a, rfl, fun j p hj => ?_⟩⟩⟩, ?_, ?_⟩
      · obtain ⟨cs', q1, q2, q3, _⟩ := hall j p hj
        exact ⟨cs', q1, q3, q2⟩
      · rw [hl']
        exact Nat.le_trans (Nat.mul_le_mul_right _ (by omega)) w1'
      · intro x hx
        obtain ⟨i, hi⟩ := List.getElem?_of_mem hx
        obtain ⟨_, _, _, _, q⟩ := hall i x hi
        exact q
def fNil (off : Nat) : RF P [] off Unit where
  K := fun _ _ cs => cs = []
  ok := fun _ => True
  opens := fun _ _ _ _ h0 _ => ⟨(), by have := h0 rfl; simp [← this], trivial⟩
def fCons (f : Field) {fs : List Field} {off n : Nat} (ho : f.offset = off) (hn : P.cellsOf f.type = n) {d : Kd α} (V : RV P f.type α d) (F : RF P fs (off + n) β) : RF P (f :: fs) off (α × β) where
  K := fun w x cs => ∃ c c', cs = c ++ c' ∧ d.K w x.1 c ∧ F.K w x.2 c'
  ok := fun x => V.ok x.1 ∧ F.ok x.2
  opens := fun {H enc w base spare held fuel cs ds} hoff hle hy hw h0 hlast => by
    obtain ⟨y, hy1, hy0⟩ := hy 0 f rfl
    obtain ⟨ds, rfl⟩ : ∃ l, ds = y :: l := by
      cases ds with
      | nil => simp at hy1
      | cons z l => simp at hy1; subst hy1; exact ⟨l, rfl⟩
    rw [List.map_cons, List.map_cons, DataW.weightsEach, List.all_append, Bool.and_eq_true] at hw
    obtain ⟨a, ha, hka⟩ := V.opens hy0 hw.1
    have hl0 := hle f (by simp)
    rw [ho, hn] at hl0
    obtain ⟨b, hb, hkb⟩ := F.opens (cs := cs) (ds := ds) hl0 (fun g hg => hle g (by simp [hg])) (fun i g hg => hy (i + 1) g hg) hw.2 (fun h => by subst h; have := hlast f (by simp); rw [ho, hn] at this; exact this.symm)
      (fun g hg => hlast g (by cases fs with | nil => simp at hg | cons z zs => rw [List.getLast?_cons_cons]; exact hg))
    refine ⟨(a, b), ⟨(cs.drop off).take n, cs.drop (off + n), ?_, ?_, hb⟩, hka, hkb⟩
    · rw [← List.drop_drop, List.take_append_drop]
    · rw [ho, hn] at ha; exact ha
/-- the struct's cells end with its last field's -/
def fitsB (P : Program) (t : TypeId) (fs : List Field) : Bool := fs.all (fun f => decide (f.offset + P.cellsOf f.type ≤ P.cellsOf t)) && (match fs.getLast? with | some f => f.offset + P.cellsOf f.type == P.cellsOf t | none => P.cellsOf t == 0)
def rStruct {fs : Array Field} (ht : P.underlying t = some (.struct fs)) (hf : fitsB P t fs.toList = true) {d : Kd β} (hc : P.cellsOf t = d.sz) (F : RF P fs.toList 0 α) (f : α → β) (hK : ∀ w x cs, F.K w x cs → d.K w (f x) cs) (ok : β → Prop) (hok : ∀ x, F.ok x → ok (f x)) : RV P t β d where
  ok := ok
  sz := hc
  opens := fun {H enc w base spare held fuel cs x} h hw => by
    obtain ⟨xs, n, _, rfl, hl, hxl, hx⟩ := DataW.trod_struct ht h
    unfold fitsB at hf
    rw [Bool.and_eq_true] at hf
    obtain ⟨f1, f2⟩ := hf
    simp only [DataW.weights, ht] at hw
    obtain ⟨a, ha, hka⟩ := F.opens (enc := enc) (w := w) (base := base) (spare := spare) (held := held) (fuel := n) (cs := cs) (ds := xs) (Nat.zero_le _)
      (fun f hf => by rw [hl]; exact of_decide_eq_true (List.all_eq_true.1 f1 f hf))
      (fun i f hi => by
        have hi' : fs[i]? = some f := by rw [← Array.getElem?_toList]; exact hi
        have hlt : i < fs.size := by
          have := (List.getElem?_eq_some_iff.1 hi).1
          simpa using this
        have z := hx i f hi'
        rw [z]
        exact ⟨_, List.getElem?_eq_getElem (by omega), List.getElem?_eq_getElem (by omega)⟩)
      hw
      (fun h0 => by rw [h0] at f2; simp at f2; rw [hl]; exact f2)
      (fun f hf => by rw [hf] at f2; simp at f2; rw [hl]; exact f2)
    exact ⟨f a, hK _ _ _ (by simpa using ha), hok a hka⟩
end
end Go.Proofs.Ytckffheolnmcnaa

end
section
namespace Go.Proofs.Ytckffheolnmcnaa.P
open Go.Proofs.YtckffheolnmcnaaW.PrintWords Go.Proofs.YtckffheolnmcnaaW.PrintLast Go.Proofs.YtckffheolnmcnaaW.PrintMore
set_option linter.unusedVariables false
def r23 : RV Try.prog 23 Int (Kd.int .u32) := rInt .u32 Try.underlying23 (by kernel_rfl)
def r3 : RV Try.prog 3 Int (Kd.int .i64) := rInt .i64 Try.underlying3 (by kernel_rfl)
def ok30 (x : S30) : Prop := (okI .u32) x.f0 ∧ (okI .i64) x.f1
def r30 : RV Try.prog 30 S30 k30 := rStruct Try.underlying30 (by kernel_rfl) (by kernel_rfl) (fCons (n := 1) _ rfl (by kernel_rfl) r23 (fCons (n := 1) _ rfl (by kernel_rfl) r3 (fNil _))) (fun x => ⟨x.1, x.2.1⟩) (by rintro w x cs ⟨c0, _, rfl, h0, c1, _, rfl, h1, rfl⟩; exact ⟨c0, _, rfl, h0, (by rw [List.append_nil]; exact h1)⟩) ok30 (fun x h => ⟨h.1, h.2.1⟩)
def r22 : RV Try.prog 22 (List (S30)) (Kd.slice 30 k30) := rSlice (B := 16) Try.underlying22 (by kernel_rfl) (by kernel_rfl) (by decide) (by decide) r30
end Go.Proofs.Ytckffheolnmcnaa.P

end
section
set_option linter.unusedVariables false
set_option linter.unusedSimpArgs false
namespace Go.Proofs.Ytckffheolnmcnaa.P
open Go.RowKit Go.Proofs.YtckffheolnmcnaaW.PrintWords Go.Proofs.YtckffheolnmcnaaW.PrintLast Go.Proofs.YtckffheolnmcnaaW.PrintMore

/-- how many addresses a prefix of so many bits has -/
def un (b : Int) : Int := 2 ^ (32 - b).toNat
theorem un_pos (b : Int) : 0 < un b := by
  unfold un
  have := Nat.two_pow_pos (32 - b).toNat
  have h2 : (0 : Int) < (((2 : Nat) ^ (32 - b).toNat : Nat) : Int) := by exact_mod_cast this
  simpa using h2
theorem un_succ (b : Int) (h : b < 32) : un b = 2 * un (b + 1) := by
  unfold un
  rw [show (32 - b).toNat = (32 - (b + 1)).toNat + 1 by omega, Int.pow_succ]; omega
/-- an address -/
def isA (a : Int) : Prop := 0 ≤ a ∧ a ≤ 4294967295
/-- may a prefix be? -/
def mayB (a b : Int) : Bool := decide (0 ≤ b) && (decide (b ≤ 32) && decide (a % un b = 0))
theorem mayB_iff (a b : Int) : mayB a b = true ↔ 0 ≤ b ∧ b ≤ 32 ∧ a % un b = 0 := by
  unfold mayB; simp
theorem mask_is (b : Int) (h0 : 0 ≤ b) (h1 : b ≤ 32) : addr_mask.f b = some (4294967296 - un b) := by
  unfold addr_mask.f
  by_cases h : b = 0
  · subst h; rfl
  · rw [if_neg h, wrap64_in _ (by omega) (by omega), if_pos (by omega)]
    have := shl_all (32 - b).toNat (by omega)
    rw [show (((32 - b).toNat : Nat) : Int) = 32 - b by omega] at this
    rw [this]; rfl
theorem may_is (a b : Int) (ha : isA a) : addr_May.f a b = some (mayB a b) := by
  unfold addr_May.f mayB
  by_cases h0 : 0 ≤ b
  · rw [if_pos h0]
    by_cases h1 : b ≤ 32
    · rw [if_pos h1, mask_is b h0 h1, Option.bind_some]
      have := andNot_mask a (32 - b).toNat ha.1 (by have := ha.2; omega) (by omega)
      unfold un
      rw [this]
      simp [h0, h1]
      rfl
    · rw [if_neg h1]; simp [h0, h1]
  · rw [if_neg h0]; simp [h0]
/-- the bit of an address at a place -/
def bitI (a i : Int) : Int := a / un (i + 1) % 2
theorem bit_ev : ∀ (d : Nat) (a i : Int), 0 ≤ a → a ≤ 4294967295 → 0 ≤ i → i ≤ 31 → 31 - i = d → Evt (fun k => whirligigref01_Bit.l0 k a i) (bitI a i) := by
  intro d
  induction d with
  | zero =>
    intro a i h0 h1 h2 h3 hd
    obtain rfl : i = 31 := by omega
    refine Evt.step ?_
    simp only [whirligigref01_Bit.l0]
    refine Evt.ite_neg (by omega) (Evt.of fun k => ?_)
    unfold bitI un
    rw [Int.tmod_eq_emod_of_nonneg h0]
    simp
  | succ d ih =>
    intro a i h0 h1 h2 h3 hd
    refine Evt.step ?_
    simp only [whirligigref01_Bit.l0]
    refine Evt.ite_pos (by omega) ?_
    rw [Int.tdiv_eq_ediv_of_nonneg h0, wrap64_in _ (by omega) (by omega), Int.emod_eq_of_lt (by omega) (by omega)]
    have := ih (a / 2) (i + 1) (by omega) (by omega) (by omega) (by omega) (by omega)
    have e : bitI (a / 2) (i + 1) = bitI a i := by
      unfold bitI
      rw [un_succ (i + 1) (by omega), Int.ediv_ediv_of_nonneg (by decide)]
    rw [e] at this
    exact this
theorem refBit_ev (a i : Int) (ha : isA a) (h2 : 0 ≤ i) (h3 : i ≤ 31) : Evt (fun k => whirligigref01_Bit.f k a i) (bitI a i) :=
  bit_ev (31 - i).toNat a i ha.1 ha.2 h2 h3 (by omega)
theorem mod_un (a i : Int) (h : 0 ≤ a) (h1 : i ≤ 31) : a % un i = a % un (i + 1) + un (i + 1) * bitI a i := by
  have hp := un_pos (i + 1)
  rw [un_succ i (by omega)]
  unfold bitI
  have e1 := Int.emod_add_mul_ediv a (un (i + 1))
  have e2 := Int.emod_add_mul_ediv a (2 * un (i + 1))
  have e3 := Int.emod_add_mul_ediv (a / un (i + 1)) 2
  have e4 : a / un (i + 1) / 2 = a / (2 * un (i + 1)) := by rw [Int.ediv_ediv_of_nonneg (Int.le_of_lt hp), Int.mul_comm]
  rw [e4] at e3
  generalize a / (2 * un (i + 1)) = q at *
  generalize a / un (i + 1) % 2 = s at *
  generalize a / un (i + 1) = p at *
  generalize un (i + 1) = u at *
  have e5 : u * p = u * s + 2 * u * q := by
    rw [← e3, Int.mul_add, ← Int.mul_assoc, Int.mul_comm u 2]
  omega
theorem refMayLoop_ev : ∀ (d : Nat) (a i b : Int), isA a → 0 ≤ i → i ≤ 32 → 32 - i = d → Evt (fun k => whirligigref01_May.l0 k i a b) (decide (a % un i = 0)) := by
  intro d
  induction d with
  | zero =>
    intro a i b ha h0 h1 hd
    obtain rfl : i = 32 := by omega
    refine Evt.step ?_
    simp only [whirligigref01_May.l0]
    refine Evt.ite_neg (by omega) (Evt.of fun k => ?_)
    have : a % un 32 = 0 := by show a % 1 = 0; omega
    rw [this]; rfl
  | succ d ih =>
    intro a i b ha h0 h1 hd
    refine Evt.step ?_
    simp only [whirligigref01_May.l0]
    refine Evt.ite_pos (by omega) ?_
    refine Evt.bind (refBit_ev a i ha h0 (by omega)) ?_
    have hm := mod_un a i ha.1 (by omega)
    have hp := un_pos (i + 1)
    have hr : 0 ≤ a % un (i + 1) := Int.emod_nonneg _ (by omega)
    by_cases hb : bitI a i = 0
    · refine Evt.ite_pos hb ?_
      rw [wrap64_in _ (by omega) (by omega)]
      have := ih a (i + 1) b ha (by omega) (by omega) (by omega)
      rw [hb, Int.mul_zero, Int.add_zero] at hm
      rw [hm]; exact this
    · refine Evt.ite_neg hb (Evt.of fun k => ?_)
      have hb1 : bitI a i = 1 := by unfold bitI at *; omega
      rw [hb1, Int.mul_one] at hm
      rw [decide_eq_false (by omega)]
theorem refMay_ev (a b : Int) (ha : isA a) : Evt (fun k => whirligigref01_May.f k a b) (mayB a b) := by
  unfold whirligigref01_May.f mayB
  by_cases h0 : b < 0
  · refine Evt.ite_pos h0 (Evt.step ?_)
    simp only [whirligigref01_May.j0]
    refine Evt.ite_pos (by simp) (Evt.of fun k => ?_)
    rw [decide_eq_false (by omega : ¬ 0 ≤ b)]; rfl
  · refine Evt.ite_neg h0 (Evt.step ?_)
    simp only [whirligigref01_May.j0]
    by_cases h1 : b > 32
    · refine Evt.ite_pos (decide_eq_true h1) (Evt.of fun k => ?_)
      rw [decide_eq_false (by omega : ¬ b ≤ 32)]; simp
    · refine Evt.ite_neg (by simpa using h1) ?_
      have := refMayLoop_ev (32 - b).toNat a b b ha (by omega) (by omega) (by omega)
      rw [decide_eq_true (by omega : 0 ≤ b), decide_eq_true (by omega : b ≤ 32)]
      exact this
/-- does a prefix have an address? -/
def inB (a b x : Int) : Bool := decide (x - x % un b = a)
def hasB (a b x : Int) : Bool := mayB a b && inB a b x
theorem has_is (a b x : Int) (ha : isA a) (hx : isA x) : addr_Has.f a b x = some (hasB a b x) := by
  unfold addr_Has.f hasB
  rw [may_is a b ha, Option.bind_some]
  by_cases h : mayB a b = true
  · obtain ⟨h0, h1, h2⟩ := (mayB_iff a b).1 h
    rw [if_pos h, mask_is b h0 h1, Option.bind_some]
    have := and_mask x (32 - b).toNat hx.1 (by have := hx.2; omega) (by omega)
    unfold un
    rw [this, h]
    unfold inB un
    simp only [Bool.true_and]
    rfl
  · rw [if_neg h]
    simp at h
    rw [h]; rfl
theorem refHasLoop_ev : ∀ (d : Nat) (a b x i : Int), isA a → isA x → 0 ≤ i → i ≤ b → b ≤ 32 → b - i = d → a / un i = x / un i →
    Evt (fun k => whirligigref01_Has.l0 k x i a b) (decide (a / un b = x / un b)) := by
  intro d
  induction d with
  | zero =>
    intro a b x i ha hx h0 h1 h2 hd he
    obtain rfl : i = b := by omega
    refine Evt.step ?_
    simp only [whirligigref01_Has.l0]
    refine Evt.ite_neg (by omega) (Evt.of fun k => ?_)
    rw [decide_eq_true he]
  | succ d ih =>
    intro a b x i ha hx h0 h1 h2 hd he
    refine Evt.step ?_
    simp only [whirligigref01_Has.l0]
    refine Evt.ite_pos (by omega) ?_
    refine Evt.bind (refBit_ev a i ha h0 (by omega)) ?_
    refine Evt.bind (refBit_ev x i hx h0 (by omega)) ?_
    have hp := un_pos (i + 1)
    have ea : a / un (i + 1) / 2 = a / un i := by rw [Int.ediv_ediv_of_nonneg (Int.le_of_lt hp), Int.mul_comm, ← un_succ i (by omega)]
    have ex : x / un (i + 1) / 2 = x / un i := by rw [Int.ediv_ediv_of_nonneg (Int.le_of_lt hp), Int.mul_comm, ← un_succ i (by omega)]
    by_cases hb : bitI a i = bitI x i
    · refine Evt.ite_pos hb ?_
      rw [wrap64_in _ (by omega) (by omega)]
      refine ih a b x (i + 1) ha hx (by omega) (by omega) h2 (by omega) ?_
      unfold bitI at hb
      omega
    · refine Evt.ite_neg hb (Evt.of fun k => ?_)
      rw [decide_eq_false]
      intro hn
      apply hb
      have key : ∀ j : Nat, i + 1 + j ≤ 32 → a / un (i + 1 + j) = x / un (i + 1 + j) → a / un (i + 1) = x / un (i + 1) := by
        intro j
        induction j with
        | zero => intro _ h; simpa using h
        | succ j ihj =>
          intro hj h
          apply ihj (by omega)
          have hp2 := un_pos (i + 1 + j + 1)
          have e : ∀ z : Int, z / un (i + 1 + j) = z / un (i + 1 + j + 1) / 2 := fun z => by
            rw [Int.ediv_ediv_of_nonneg (Int.le_of_lt hp2), Int.mul_comm, ← un_succ (i + 1 + j) (by omega)]
          rw [e a, e x]
          have h' : a / un (i + 1 + j + 1) = x / un (i + 1 + j + 1) := by
            rw [show i + 1 + (j : Int) + 1 = i + 1 + ((j + 1 : Nat) : Int) by omega]; exact h
          rw [h']
      have := key (b - i - 1).toNat (by omega) (by rw [show i + 1 + (((b - i - 1).toNat : Nat) : Int) = b by omega]; exact hn)
      unfold bitI
      rw [this]
theorem div_in (a b x : Int) (hm : a % un b = 0) : (a / un b = x / un b) ↔ x - x % un b = a := by
  have hp := un_pos b
  have e1 := Int.emod_add_mul_ediv a (un b)
  have e2 := Int.emod_add_mul_ediv x (un b)
  rw [hm] at e1
  constructor
  · intro h; rw [← h] at e2; omega
  · intro h
    have : un b * (x / un b) = un b * (a / un b) := by omega
    exact (Int.eq_of_mul_eq_mul_left (by omega) this).symm
theorem refHas_ev (a b x : Int) (ha : isA a) (hx : isA x) (hm : mayB a b = true) : Evt (fun k => whirligigref01_Has.f k a b x) (inB a b x) := by
  obtain ⟨h0, h1, h2⟩ := (mayB_iff a b).1 hm
  have := refHasLoop_ev b.toNat a b x 0 ha hx (by omega) h0 h1 (by omega) (by
    have : un 0 = 4294967296 := rfl
    rw [this]
    have := ha.1; have := ha.2; have := hx.1; have := hx.2
    omega)
  unfold inB
  rw [show decide (x - x % un b = a) = decide (a / un b = x / un b) from decide_eq_decide.2 (div_in a b x h2).symm]
  exact this
/-- does a prefix contain another one? -/
def contB (a b c d : Int) : Bool := mayB c d && (decide (b ≤ d) && hasB a b c)
theorem contains_is (a b c d : Int) (ha : isA a) (hc : isA c) : addr_Contains.f a b c d = some (contB a b c d) := by
  unfold addr_Contains.f contB
  rw [may_is c d hc, Option.bind_some]
  by_cases h : mayB c d = true
  · rw [if_pos h, h]
    by_cases h1 : b ≤ d
    · rw [if_pos h1, has_is a b c ha hc, decide_eq_true h1]; rfl
    · rw [if_neg h1, decide_eq_false h1]; rfl
  · rw [if_neg h]; simp at h; rw [h]; rfl
theorem refContains_ev (a b c d : Int) (ha : isA a) (hc : isA c) : Evt (fun k => whirligigref01_Contains.f k a b c d) (contB a b c d) := by
  unfold whirligigref01_Contains.f contB
  refine Evt.bind (refMay_ev a b ha) ?_
  by_cases h : mayB a b = true
  · refine Evt.ite_pos h (Evt.bind (refMay_ev c d hc) ?_)
    by_cases h1 : mayB c d = true
    · refine Evt.ite_pos h1 ?_
      by_cases h2 : b ≤ d
      · refine Evt.ite_pos h2 (Evt.bind (refHas_ev a b c ha hc h) (Evt.of fun k => ?_))
        rw [h1, decide_eq_true h2]; unfold hasB; rw [h]; rfl
      · refine Evt.ite_neg h2 (Evt.of fun k => ?_)
        rw [h1, decide_eq_false h2]; rfl
    · refine Evt.ite_neg h1 (Evt.of fun k => ?_)
      simp at h1; rw [h1]; rfl
  · refine Evt.ite_neg h (Evt.of fun k => ?_)
    simp at h
    unfold hasB; rw [h]; simp
end Go.Proofs.Ytckffheolnmcnaa.P

end
section
namespace Go.Proofs.Ytckffheolnmcnaa.P
open Go.RowKit Go.Proofs.YtckffheolnmcnaaW.PrintWords Go.Proofs.YtckffheolnmcnaaW.PrintLast Go.Proofs.YtckffheolnmcnaaW.PrintMore
attribute [local go_sem] max2_int min2_int max_two min_two max_three min_three max_four min_four   -- for this text's walks alone
set_option linter.unusedVariables false
set_option linter.unusedSimpArgs false

def addr_Halves.f (a0_0 : Int) (a0_1 : Int) : Option (Int × Int × Int × Int × Int) := (addr_May.f a0_0 a0_1).bind fun t300 => (if t300 = true then (if a0_1 = 32 then (some (0, 0, 0, 0, 5)) else ((addr_halves.f a0_0 a0_1).bind fun bt301 => (some (bt301.1, bt301.2.1, bt301.2.2.1, bt301.2.2.2, 0)))) else (some (0, 0, 0, 0, 1)))
end Go.Proofs.Ytckffheolnmcnaa.P

end
section
set_option linter.unusedVariables false
set_option linter.unusedSimpArgs false
namespace Go.Proofs.Ytckffheolnmcnaa.P
open Go.RowKit Go.Proofs.YtckffheolnmcnaaW.PrintWords Go.Proofs.YtckffheolnmcnaaW.PrintLast Go.Proofs.YtckffheolnmcnaaW.PrintMore

theorem sort_two : sortP [(⟨167772160, 9⟩ : S30), ⟨176160768, 9⟩] = [(⟨167772160, 9⟩ : S30), ⟨176160768, 9⟩] := by
  unfold sortP
  apply List.mergeSort_of_pairwise
  decide
theorem lives_ev : Evt (fun k => whirligiglaw01_lives.f k) true := by
  refine Evt.of_mono (K := 12) (fun k => whirligiglaw01_lives.mono k) ?_
  unfold whirligiglaw01_lives.f addr_Plain.f addr_plain.f
  rw [sort_two]
  decide +kernel
/-- the beginning of a prefix of v bits -/
def flo (a v : Int) : Int := a - a % un v
theorem flo_zero (a : Int) (ha : isA a) : flo a 0 = 0 := by
  have : un 0 = 4294967296 := rfl
  unfold flo; rw [this]; have := ha.1; have := ha.2; omega
theorem flo_isA (a v : Int) (ha : isA a) : isA (flo a v) := by
  have hp := un_pos v
  have h1 := Int.emod_nonneg a (show un v ≠ 0 by omega)
  have h2 := Int.emod_add_mul_ediv a (un v)
  have h3 : 0 ≤ un v * (a / un v) := Int.mul_nonneg (by omega) (Int.ediv_nonneg ha.1 (by omega))
  have := ha.1; have := ha.2
  unfold flo; constructor <;> omega
theorem flo_mod (a v : Int) : flo a v % un v = 0 := by
  have hp := un_pos v
  have h2 := Int.emod_add_mul_ediv a (un v)
  have : flo a v = un v * (a / un v) := by unfold flo; omega
  rw [this]; exact Int.mul_emod_right _ _
theorem flo_may (a v : Int) (h0 : 0 ≤ v) (h1 : v ≤ 32) : mayB (flo a v) v = true := (mayB_iff _ _).2 ⟨h0, h1, flo_mod a v⟩
theorem flo_self (a v : Int) (h : a % un v = 0) : flo a v = a := by unfold flo; omega
theorem mod_half (a v : Int) (h : v ≤ 32) : (a % un (v - 1)) % un v = a % un v := by
  rw [show un (v - 1) = 2 * un v by have := un_succ (v - 1) (by omega); rwa [show v - 1 + 1 = v by omega] at this]
  exact Int.emod_emod_of_dvd _ (Int.dvd_mul_left _ _)
/-- the halves of what is one bit shorter -/
theorem flo_down (a v : Int) (h : v ≤ 32) : flo (flo a v) (v - 1) = flo a (v - 1) ∧ (flo a v = flo a (v - 1) ∨ flo a v = flo a (v - 1) + un v) := by
  have e := mod_half a v h
  have hu : un (v - 1) = 2 * un v := by have := un_succ (v - 1) (by omega); rwa [show v - 1 + 1 = v by omega] at this
  have hp := un_pos v
  have h1 := Int.emod_nonneg a (show un (v - 1) ≠ 0 by omega)
  have h2 := Int.emod_lt_of_pos a (show 0 < un (v - 1) by omega)
  have hm := flo_mod a (v - 1)
  have hd : ∀ t, 0 ≤ t → t < un (v - 1) → (flo a (v - 1) + t) % un (v - 1) = t := by
    intro t t0 t1
    rw [Int.add_emod, hm, Int.zero_add, Int.emod_emod_of_dvd _ (Int.dvd_refl _), Int.emod_eq_of_lt t0 t1]
  unfold flo at *
  by_cases hc : a % un (v - 1) < un v
  · rw [Int.emod_eq_of_lt h1 hc] at e
    have e1 : a - a % un v = a - a % un (v - 1) := by rw [e]
    have := hd 0 (by omega) (by omega)
    rw [Int.add_zero] at this
    rw [e1, this]
    exact ⟨by omega, .inl rfl⟩
  · have e2 : (a % un (v - 1)) % un v = a % un (v - 1) - un v := by
      rw [← Int.sub_emod_right, Int.emod_eq_of_lt (by omega) (by omega)]
    rw [e2] at e
    have e1 : a - a % un v = a - a % un (v - 1) + un v := by rw [← e]; omega
    have := hd (un v) (by omega) (by omega)
    rw [e1, this]
    exact ⟨by omega, .inr rfl⟩
theorem flo_down_le : ∀ (n : Nat) (a v : Int), v ≤ 32 → flo (flo a v) (v - n) = flo a (v - n) := by
  intro n
  induction n with
  | zero => intro a v h; rw [show v - ((0 : Nat) : Int) = v by omega]; exact flo_self _ _ (flo_mod a v)
  | succ n ih =>
    intro a v h
    rw [show v - ((n + 1 : Nat) : Int) = v - n - 1 by omega, ← (flo_down (flo a v) (v - n) (by omega)).1, ih a v h, (flo_down a (v - n) (by omega)).1]
theorem flo_flo (a v u : Int) (h : v ≤ 32) (hu : u ≤ v) : flo (flo a v) u = flo a u := by
  have := flo_down_le (v - u).toNat a v h
  rwa [show v - (((v - u).toNat : Nat) : Int) = u by omega] at this
theorem mod_long (a b v : Int) (hv : v ≤ b) (hb : b ≤ 32) (h : a % un v = 0) : a % un b = 0 := by
  have h1 := flo_self a v h
  have h2 := flo_mod a b
  have h3 := flo_flo a b v hb hv
  have h4 := un_pos b
  have h5 := Int.emod_nonneg a (show un b ≠ 0 by omega)
  have h6 : un v = un b * 2 ^ (b - v).toNat := by
    unfold un
    rw [← Int.pow_add, show (32 - b).toNat + (b - v).toNat = (32 - v).toNat by omega]
  have h7 : un b ∣ a := Int.dvd_trans ⟨_, h6⟩ (Int.dvd_of_emod_eq_zero h)
  exact Int.emod_eq_zero_of_dvd h7
/-- what stands above two -/
def isTop (a b c d u : Int) : Prop := 0 ≤ u ∧ u ≤ b ∧ u ≤ d ∧ flo a u = flo c u ∧ ∀ v, u < v → v ≤ b → v ≤ d → flo a v ≠ flo c v
theorem isTop.symm {a b c d u : Int} (h : isTop a b c d u) : isTop c d a b u := ⟨h.1, h.2.2.1, h.2.1, h.2.2.2.1.symm, fun v h1 h2 h3 e => h.2.2.2.2 v h1 h3 h2 e.symm⟩
theorem isTop.one {a b c d u v : Int} (h : isTop a b c d u) (g : isTop a b c d v) : u = v := by
  obtain ⟨h1, h2, h3, h4, h5⟩ := h
  obtain ⟨g1, g2, g3, g4, g5⟩ := g
  rcases Int.lt_trichotomy u v with e | e | e
  · exact absurd g4 (h5 v e g2 g3)
  · exact e
  · exact absurd h4 (g5 u e h2 h3)
theorem top_le (a b : Int) (ha : isA a) (hb : mayB a b = true) : a + un b ≤ 4294967296 := by
  obtain ⟨b0, b1, b2⟩ := (mayB_iff a b).1 hb
  have h6 : (4294967296 : Int) = un b * 2 ^ b.toNat := by
    unfold un
    rw [← Int.pow_add, show (32 - b).toNat + b.toNat = 32 by omega]; rfl
  have h7 : un b ∣ 4294967296 - a := Int.dvd_sub ⟨_, h6⟩ (Int.dvd_of_emod_eq_zero b2)
  have := Int.le_of_dvd (by have := ha.2; omega) h7
  omega
theorem shl_one' (n : Nat) (hn : n ≤ 31) : shl .u32 1 n = 2 ^ n := by
  have : ∀ n : Fin 32, shl .u32 1 n.val = 2 ^ n.val := by decide +kernel
  exact this ⟨n, by omega⟩
theorem halves_is (a b : Int) (ha : isA a) (hb : mayB a b = true) (h : b ≠ 32) : addr_Halves.f a b = some (a, b + 1, a + un (b + 1), b + 1, 0) := by
  obtain ⟨b0, b1, b2⟩ := (mayB_iff a b).1 hb
  unfold addr_Halves.f
  rw [may_is a b ha, Option.bind_some, if_pos hb, if_neg h]
  unfold addr_halves.f
  rw [wrap64_in (31 - b) (by omega) (by omega), wrap64_in (b + 1) (by omega) (by omega), if_pos (by omega)]
  have e1 := shl_one' (31 - b).toNat (by omega)
  rw [show (((31 - b).toNat : Nat) : Int) = 31 - b by omega] at e1
  have e2 : (2 : Int) ^ (31 - b).toNat = un (b + 1) := by unfold un; rw [show (32 - (b + 1)).toNat = (31 - b).toNat by omega]
  have hu := un_succ b (by omega)
  have hp := un_pos (b + 1)
  have e3 := or_join a (un (b + 1)) (32 - b).toNat (by omega) ha.1 b2 (by have := ha.2; omega) (by omega) (by show un (b + 1) < un b; omega)
  rw [e1, e2, e3]; rfl
end Go.Proofs.Ytckffheolnmcnaa.P

end
section
set_option linter.unusedVariables false
set_option linter.unusedSimpArgs false
namespace Go.Proofs.Ytckffheolnmcnaa.P
open Go.RowKit Go.Proofs.YtckffheolnmcnaaW.PrintWords Go.Proofs.YtckffheolnmcnaaW.PrintLast Go.Proofs.YtckffheolnmcnaaW.PrintMore

abbrev Pf := S30
def okP (p : Pf) : Prop := isA p.f0 ∧ mayB p.f0 p.f1 = true
def hiP (p : Pf) : Int := p.f0 + un p.f1
theorem okP.bits {p : Pf} (h : okP p) : 0 ≤ p.f1 ∧ p.f1 ≤ 32 ∧ p.f0 % un p.f1 = 0 := (mayB_iff _ _).1 h.2
theorem un_mul (b v : Int) (hv : v ≤ b) (hb : b ≤ 32) : un v = un b * 2 ^ (b - v).toNat := by
  unfold un
  rw [← Int.pow_add, show (32 - b).toNat + (b - v).toNat = (32 - v).toNat by omega]
theorem un_dvd (b v : Int) (hv : v ≤ b) (hb : b ≤ 32) : un b ∣ un v := ⟨_, un_mul b v hv hb⟩
theorem in_iff (a b z : Int) (hm : a % un b = 0) : inB a b z = true ↔ a ≤ z ∧ z < a + un b := by
  unfold inB
  rw [decide_eq_true_eq]
  have hp := un_pos b
  have h1 := Int.emod_nonneg z (show un b ≠ 0 by omega)
  have h2 := Int.emod_lt_of_pos z hp
  constructor
  · intro h; omega
  · rintro ⟨h3, h4⟩
    have : z % un b = z - a := by
      rw [show z = a + (z - a) by omega, Int.add_emod, hm, Int.zero_add, Int.emod_emod_of_dvd _ (Int.dvd_refl _), Int.emod_eq_of_lt (by omega) (by omega)]
      omega
    omega
/-- does a prefix hold an address? -/
def hasP (p : Pf) (z : Int) : Prop := p.f0 ≤ z ∧ z < hiP p
theorem hasB_iff {p : Pf} (h : okP p) (z : Int) : hasB p.f0 p.f1 z = true ↔ hasP p z := by
  unfold hasB
  rw [h.2, Bool.true_and]
  exact in_iff _ _ _ h.bits.2.2
theorem cont_iff {p q : Pf} (hp : okP p) (hq : okP q) : contB p.f0 p.f1 q.f0 q.f1 = true ↔ p.f1 ≤ q.f1 ∧ hasP p q.f0 := by
  unfold contB
  rw [hq.2, Bool.true_and, Bool.and_eq_true, decide_eq_true_eq, hasB_iff hp]
theorem nest {p q : Pf} (hp : okP p) (hq : okP q) (hb : p.f1 ≤ q.f1) (h : hasP p q.f0) : hiP q ≤ hiP p := by
  obtain ⟨p0, p1, p2⟩ := hp.bits
  obtain ⟨q0, q1, q2⟩ := hq.bits
  have hu := un_dvd q.f1 p.f1 hb q1
  have h1 : un q.f1 ∣ hiP p - q.f0 := by
    unfold hiP
    exact Int.dvd_sub (Int.dvd_add (Int.dvd_trans hu (Int.dvd_of_emod_eq_zero p2)) hu) (Int.dvd_of_emod_eq_zero q2)
  have := Int.le_of_dvd (by have := h.2; omega) h1
  unfold hiP at *; omega
theorem nest2 {p q : Pf} (hp : okP p) (hq : okP q) (hb : q.f1 ≤ p.f1) (h : hasP p q.f0) : q.f0 = p.f0 := by
  obtain ⟨p0, p1, p2⟩ := hp.bits
  obtain ⟨q0, q1, q2⟩ := hq.bits
  have hu := un_dvd p.f1 q.f1 hb p1
  have h1 : un p.f1 ∣ q.f0 - p.f0 := Int.dvd_sub (Int.dvd_trans hu (Int.dvd_of_emod_eq_zero q2)) (Int.dvd_of_emod_eq_zero p2)
  have h2 := Int.emod_eq_zero_of_dvd h1
  rw [Int.emod_eq_of_lt (by have := h.1; omega) (by have := h.2; unfold hiP at this; omega)] at h2
  omega
theorem hi_pos (p : Pf) : p.f0 < hiP p := by unfold hiP; have := un_pos p.f1; omega
/-- halves of one -/
def sisB (x y : Pf) : Bool := decide (x.f1 ≠ 0) && (decide (x.f1 = y.f1) && (decide (flo x.f0 (x.f1 - 1) = x.f0) && decide (y.f0 = x.f0 + un x.f1)))
theorem sisB_iff (x y : Pf) : sisB x y = true ↔ x.f1 ≠ 0 ∧ x.f1 = y.f1 ∧ flo x.f0 (x.f1 - 1) = x.f0 ∧ y.f0 = x.f0 + un x.f1 := by
  unfold sisB; simp
theorem sister_ev {x y : Pf} (hx : okP x) (hy : okP y) : Evt (fun k => addr_sister.f k x.f0 x.f1 y.f0 y.f1) (sisB x y) := by
  obtain ⟨b0, b1, b2⟩ := hx.bits
  unfold addr_sister.f sisB
  by_cases h : x.f1 = 0
  · refine Evt.ite_pos h (Evt.step ?_)
    simp only [addr_sister.j0]
    refine Evt.ite_pos trivial (Evt.of fun k => ?_)
    simp [h]
  · refine Evt.ite_neg h (Evt.step ?_)
    simp only [addr_sister.j0]
    by_cases h2 : x.f1 = y.f1
    · refine Evt.ite_neg (by simp [h2]) ?_
      rw [wrap64_in _ (by omega) (by omega)]
      refine Evt.bindc (mask_is (x.f1 - 1) (by omega) (by omega)) ?_
      have := and_mask x.f0 (32 - (x.f1 - 1)).toNat hx.1.1 (by have := hx.1.2; omega) (by omega)
      have e : bits .and .u32 x.f0 (4294967296 - un (x.f1 - 1)) = flo x.f0 (x.f1 - 1) := this
      rw [e]
      have hf := flo_isA x.f0 (x.f1 - 1) hx.1
      have hm := flo_may x.f0 (x.f1 - 1) (by omega) (by omega)
      have eh : addr_halves.f (flo x.f0 (x.f1 - 1)) (x.f1 - 1) = some (flo x.f0 (x.f1 - 1), x.f1, flo x.f0 (x.f1 - 1) + un x.f1, x.f1) := by
        have := halves_is _ _ hf hm (by omega)
        unfold addr_Halves.f at this
        rw [may_is _ _ hf, Option.bind_some, if_pos hm, if_neg (by omega)] at this
        obtain ⟨t, ht, h3⟩ := Option.bind_eq_some_iff.mp this
        rw [ht]
        simp only [Option.some.injEq, Prod.mk.injEq] at h3
        obtain ⟨e1, e2, e3, e4, _⟩ := h3
        obtain ⟨t1, t2, t3, t4⟩ := t
        dsimp only at e1 e2 e3 e4
        subst e1; subst e2; subst e3; subst e4
        rw [show x.f1 - 1 + 1 = x.f1 by omega]
      refine Evt.bindc eh ?_
      by_cases h3 : flo x.f0 (x.f1 - 1) = x.f0
      · refine Evt.ite_pos (by simp [h3]) (Evt.of fun k => ?_)
        have e1 : (x.f1 == y.f1) = true := by simp [h2]
        show some ((flo x.f0 (x.f1 - 1) + un x.f1 == y.f0) && (x.f1 == y.f1)) = _
        rw [decide_eq_true h, decide_eq_true h2, decide_eq_true h3, h3, e1, Bool.and_true]
        simp only [Bool.true_and]
        by_cases q : y.f0 = x.f0 + un x.f1
        · rw [q]; simp
        · have q2 : ¬ x.f0 + un x.f1 = y.f0 := fun e => q e.symm
          simp [q, q2]
      · refine Evt.ite_neg (by simp [h3]) (Evt.of fun k => ?_)
        rw [decide_eq_false h3]; simp
    · refine Evt.ite_pos (by simp [h2]) (Evt.of fun k => ?_)
      simp [h2]
/-- rows of prefixes one behind the other, the last one ahead; no two halves of one side by side -/
def Stk : List Pf → Prop
  | [] => True
  | [y] => okP y
  | y :: x :: r => okP y ∧ hiP x ≤ y.f0 ∧ sisB x y = false ∧ Stk (x :: r)
def cov (l : List Pf) (z : Int) : Prop := ∃ p ∈ l, hasP p z
theorem Stk.tail {y : Pf} {r : List Pf} (h : Stk (y :: r)) : Stk r := by
  cases r with
  | nil => exact trivial
  | cons x r => exact h.2.2.2
theorem Stk.head {y : Pf} {r : List Pf} (h : Stk (y :: r)) : okP y := by
  cases r with
  | nil => exact h
  | cons x r => exact h.1
theorem up_ev : ∀ (r : List Pf) (n : Nat) (p : Pf), r.length ≤ n → okP p → Stk r → (∀ x r', r = x :: r' → hiP x ≤ p.f0) →
    ∃ y z, Evt (fun k => addr_plain.up k n (p :: r)) (y :: z) ∧ Stk (y :: z) ∧ (∀ a, cov (y :: z) a ↔ cov (p :: r) a) ∧ y.f1 ≤ p.f1 ∧ hasP y p.f0 ∧ (y :: z).length ≤ (p :: r).length := by
  intro r
  induction r with
  | nil =>
    intro n p _ hp _ _
    refine ⟨p, [], Evt.of fun k => ?_, hp, fun a => Iff.rfl, by simp, ⟨by simp, hi_pos p⟩, Nat.le_refl _⟩
    cases n <;> rfl
  | cons x r ih =>
    intro n p hn hp hr hx
    obtain ⟨n, rfl⟩ : ∃ m, n = m + 1 := ⟨n - 1, by simp at hn; omega⟩
    have hox := hr.head
    by_cases hs : sisB x p = true
    · obtain ⟨s1, s2, s3, s4⟩ := (sisB_iff x p).1 hs
      obtain ⟨b0, b1, b2⟩ := hox.bits
      have hu := un_succ (x.f1 - 1) (by omega)
      rw [show x.f1 - 1 + 1 = x.f1 by omega] at hu
      have hw : wrap64 (x.f1 - 1) = x.f1 - 1 := wrap64_in _ (by omega) (by omega)
      have hm : okP ⟨x.f0, x.f1 - 1⟩ := by
        refine ⟨hox.1, (mayB_iff _ _).2 ⟨by show 0 ≤ x.f1 - 1; omega, by show x.f1 - 1 ≤ 32; omega, ?_⟩⟩
        show x.f0 % un (x.f1 - 1) = 0
        rw [← s3]; exact flo_mod _ _
      have hpos := un_pos x.f1
      have hhi : hiP ⟨x.f0, x.f1 - 1⟩ = hiP p := by unfold hiP; show x.f0 + un (x.f1 - 1) = p.f0 + un p.f1; rw [← s2]; omega
      obtain ⟨y, z, h1, h2, h3, h4, h5, h8⟩ := ih n ⟨x.f0, x.f1 - 1⟩ (by simp at hn; omega) hm hr.tail (fun x' r' e => by
        subst e; exact hr.2.1)
      refine ⟨y, z, ?_, h2, fun a => ?_, by have : y.f1 ≤ x.f1 - 1 := h4; omega, ?_, by simp at h8 ⊢; omega⟩
      · refine Evt.bind (f := fun k b => if b = true then addr_plain.up k n (⟨x.f0, wrap64 (x.f1 - 1)⟩ :: r) else some (p :: x :: r)) (sister_ev hox hp) ?_
        refine Evt.ite_pos hs ?_
        rw [hw]; exact h1
      · rw [h3 a]
        have hc : hasP ⟨x.f0, x.f1 - 1⟩ a ↔ hasP p a ∨ hasP x a := by
          unfold hasP
          rw [hhi]
          have e1 : hiP x = p.f0 := by unfold hiP; omega
          rw [e1]
          have := hi_pos p
          have := hi_pos x
          rw [e1] at this
          show x.f0 ≤ a ∧ a < hiP p ↔ _
          omega
        unfold cov
        simp only [List.mem_cons, exists_eq_or_imp]
        rw [hc, or_assoc]
      · have hy := h2.head
        have h6 := nest hy hm h4 h5
        have h7 : y.f0 ≤ x.f0 := h5.1
        have := hi_pos p
        rw [hhi] at h6
        exact ⟨by omega, by omega⟩
    · have hs' : sisB x p = false := by simpa using hs
      refine ⟨p, x :: r, ?_, ⟨hp, hx x r rfl, hs', hr⟩, fun a => Iff.rfl, by simp, ⟨by simp, hi_pos p⟩, Nat.le_refl _⟩
      refine Evt.bind (f := fun k b => if b = true then addr_plain.up k n (⟨x.f0, wrap64 (x.f1 - 1)⟩ :: r) else some (p :: x :: r)) (sister_ev hox hp) ?_
      exact Evt.ite_neg hs (Evt.of fun k => rfl)
/-- ahead, or the same -/
def leP (p q : Pf) : Prop := p.f0 < q.f0 ∨ p.f0 = q.f0 ∧ p.f1 ≤ q.f1
theorem go_ev : ∀ (l : List Pf) (s : List Pf), Stk s → (∀ p ∈ l, okP p) → l.Pairwise leP → (∀ y r, s = y :: r → ∃ q, okP q ∧ y.f1 ≤ q.f1 ∧ hasP y q.f0 ∧ ∀ p ∈ l, leP q p) →
    ∃ z, Evt (fun k => addr_plain.go k s l) z ∧ Stk z ∧ (∀ a, cov z a ↔ cov s a ∨ cov l a) ∧ z.length ≤ s.length + l.length := by
  intro l
  induction l with
  | nil =>
    intro s hs _ _ _
    refine ⟨s, Evt.of fun k => by cases s <;> rfl, hs, fun a => ?_, by simp⟩
    unfold cov; simp
  | cons p l ih =>
    intro s hs hl hp hq
    have hop := hl p (by simp)
    have hl' : ∀ p ∈ l, okP p := fun q h => hl q (by simp [h])
    obtain ⟨hp1, hp2⟩ := List.pairwise_cons.1 hp
    have hcons : ∀ a, cov (p :: l) a ↔ hasP p a ∨ cov l a := fun a => by unfold cov; simp
    cases s with
    | nil =>
      obtain ⟨z, h1, h2, h3, h9⟩ := ih [p] hop hl' hp2 (fun y r e => by
        obtain ⟨rfl, _⟩ := List.cons.inj e
        exact ⟨p, hop, Int.le_refl _, ⟨Int.le_refl _, hi_pos p⟩, hp1⟩)
      refine ⟨z, h1, h2, fun a => ?_, by simp at h9 ⊢; omega⟩
      rw [h3 a, hcons]; unfold cov; simp
    | cons y s =>
      have hoy := hs.head
      obtain ⟨q, hoq, hyb, hyq, hqle⟩ := hq y s rfl
      have hqp := hqle p (by simp)
      by_cases hc : contB y.f0 y.f1 p.f0 p.f1 = true
      · obtain ⟨c1, c2⟩ := (cont_iff hoy hop).1 hc
        obtain ⟨z, h1, h2, h3, h9⟩ := ih (y :: s) hs hl' hp2 (fun y' r e => by
          obtain ⟨rfl, _⟩ := List.cons.inj e
          exact ⟨p, hop, c1, c2, hp1⟩)
        refine ⟨z, ?_, h2, fun a => ?_, by simp at h9 ⊢; omega⟩
        · refine Evt.bindc (f := fun k b => if b = true then addr_plain.go k (y :: s) l else (addr_plain.up k (s.length + 1) (p :: y :: s)).bind fun z => addr_plain.go k z l) (contains_is _ _ _ _ hoy.1 hop.1) ?_
          exact Evt.ite_pos hc h1
        · rw [h3 a, hcons]
          have hn := nest hoy hop c1 c2
          have : hasP p a → cov (y :: s) a := fun h => ⟨y, by simp, ⟨by have := c2.1; have := h.1; omega, by have := h.2; omega⟩⟩
          constructor
          · rintro (h | h)
            · exact .inl h
            · exact .inr (.inr h)
          · rintro (h | h | h)
            · exact .inl h
            · exact .inl (this h)
            · exact .inr h
      · have hge : hiP y ≤ p.f0 := by
          rcases Int.lt_or_le p.f0 (hiP y) with h | h
          · exfalso
            have hlo : y.f0 ≤ p.f0 := by
              have := hyq.1
              rcases hqp with e | e <;> omega
            rcases Int.lt_or_le p.f1 y.f1 with hb | hb
            · have e := nest2 hoy hop (by omega) ⟨hlo, h⟩
              have := hyq.1
              rcases hqp with e2 | e2
              · omega
              · omega
            · exact hc ((cont_iff hoy hop).2 ⟨hb, hlo, h⟩)
          · exact h
        obtain ⟨y', z', h1, h2, h3, h4, h5, h8⟩ := up_ev (y :: s) (s.length + 1) p (by simp) hop hs (fun x r e => by
          obtain ⟨rfl, _⟩ := List.cons.inj e; exact hge)
        obtain ⟨z, g1, g2, g3, g9⟩ := ih (y' :: z') h2 hl' hp2 (fun y r e => by
          obtain ⟨rfl, _⟩ := List.cons.inj e
          exact ⟨p, hop, h4, h5, hp1⟩)
        refine ⟨z, ?_, g2, fun a => ?_, by simp at h8 g9 ⊢; omega⟩
        · refine Evt.bindc (f := fun k b => if b = true then addr_plain.go k (y :: s) l else (addr_plain.up k (s.length + 1) (p :: y :: s)).bind fun z => addr_plain.go k z l) (contains_is _ _ _ _ hoy.1 hop.1) ?_
          exact Evt.ite_neg hc (Evt.bind h1 g1)
        · rw [g3 a, h3 a, hcons]
          have : cov (p :: y :: s) a ↔ hasP p a ∨ cov (y :: s) a := by unfold cov; simp
          rw [this, or_assoc, or_left_comm]
end Go.Proofs.Ytckffheolnmcnaa.P

end
section
set_option linter.unusedVariables false
set_option linter.unusedSimpArgs false
namespace Go.Proofs.Ytckffheolnmcnaa.P
open Go.RowKit Go.Sort Go.Proofs.YtckffheolnmcnaaW.PrintWords Go.Proofs.YtckffheolnmcnaaW.PrintLast Go.Proofs.YtckffheolnmcnaaW.PrintMore

theorem ordP_le (x y : Pf) : ordP x y ≤ 0 ↔ leP x y := by
  unfold ordP orI cmpI leP
  by_cases h1 : x.f0 < y.f0
  · simp [h1]
  · by_cases h2 : y.f0 < x.f0
    · simp [h1, h2]; omega
    · have e : x.f0 = y.f0 := by omega
      by_cases h3 : x.f1 < y.f1
      · simp [h1, h2, h3, e]; omega
      · by_cases h4 : y.f1 < x.f1
        · simp [h1, h2, h3, h4, e]
        · simp [h1, h2, h3, h4, e]; omega
theorem sort_le (x y : Pf) : (!(ltOf ordP) y x) = true ↔ leP x y := by
  unfold ltOf
  have := ordP_ord.1 x y
  rw [← ordP_le]
  by_cases h : ordP y x < 0
  · simp [h]; omega
  · simp [h]; omega
theorem leP_trans {x y z : Pf} (h : leP x y) (g : leP y z) : leP x z := by
  rcases h with h | ⟨h, h'⟩ <;> rcases g with g | ⟨g, g'⟩
  · exact .inl (by omega)
  · exact .inl (by omega)
  · exact .inl (by omega)
  · exact .inr ⟨by omega, by omega⟩
theorem leP_total (x y : Pf) : leP x y ∨ leP y x := by
  unfold leP; omega
theorem leP_anti {x y : Pf} (h : leP x y) (g : leP y x) : x = y := by
  cases x; cases y
  unfold leP at *
  simp at *
  omega
theorem sortP_perm (l : List Pf) : (sortP l).Perm l := List.mergeSort_perm _ _
theorem sortP_sorted (l : List Pf) : (sortP l).Pairwise leP := by
  have := List.pairwise_mergeSort (le := fun x y => !(ltOf ordP) y x) (fun x y z h g => (sort_le x z).2 (leP_trans ((sort_le x y).1 h) ((sort_le y z).1 g))) (fun x y => by
    rcases leP_total x y with h | h
    · rw [(sort_le x y).2 h]; rfl
    · rw [(sort_le y x).2 h]; simp) l
  exact this.imp (fun h => (sort_le _ _).1 h)
theorem sorted_one : ∀ {l m : List Pf}, l.Perm m → l.Pairwise leP → m.Pairwise leP → l = m := by
  intro l
  induction l with
  | nil => intro m h _ _; exact (List.Perm.nil_eq h)
  | cons x l ih =>
    intro m h hl hm
    cases m with
    | nil => exact absurd h.length_eq (by simp)
    | cons y m =>
      have e : x = y := by
        have h1 : x ∈ y :: m := h.subset (by simp)
        have h2 : y ∈ x :: l := h.symm.subset (by simp)
        rcases List.mem_cons.1 h1 with e | e
        · exact e
        · rcases List.mem_cons.1 h2 with e2 | e2
          · exact e2.symm
          · exact leP_anti ((List.pairwise_cons.1 hl).1 y e2) ((List.pairwise_cons.1 hm).1 x e)
      subst e
      rw [ih ((List.perm_cons x).1 h) (List.pairwise_cons.1 hl).2 (List.pairwise_cons.1 hm).2]
theorem sortP_rev (l : List Pf) : sortP l.reverse = sortP l :=
  sorted_one (((sortP_perm _).trans (List.reverse_perm l)).trans (sortP_perm l).symm) (sortP_sorted _) (sortP_sorted _)
/-- ahead of one another, and not the halves of one -/
def Rp (x y : Pf) : Prop := hiP x ≤ y.f0 ∧ sisB x y = false
def Pln (l : List Pf) : Prop := (∀ p ∈ l, okP p) ∧ l.Pairwise Rp
theorem Stk.all : ∀ {s : List Pf}, Stk s → (∀ p ∈ s, okP p) ∧ s.Pairwise (fun y x => Rp x y) := by
  intro s
  induction s with
  | nil => intro _; exact ⟨by simp, List.Pairwise.nil⟩
  | cons y r ih =>
    intro h
    obtain ⟨h1, h2⟩ := ih h.tail
    refine ⟨fun p hp => ?_, List.pairwise_cons.2 ⟨fun q hq => ?_, h2⟩⟩
    · rcases List.mem_cons.1 hp with rfl | hp
      · exact h.head
      · exact h1 p hp
    · cases r with
      | nil => simp at hq
      | cons x r =>
        obtain ⟨hy, hxy, hs, hr⟩ := h
        rcases List.mem_cons.1 hq with rfl | hq
        · exact ⟨hxy, hs⟩
        · have hqx := ((List.pairwise_cons.1 h2).1 q hq).1
          have := hi_pos x
          refine ⟨by omega, ?_⟩
          cases hb : sisB q y with
          | false => rfl
          | true =>
            obtain ⟨_, _, _, e⟩ := (sisB_iff q y).1 hb
            unfold hiP at *; omega
theorem Stk.pln {s : List Pf} (h : Stk s) : Pln s.reverse :=
  ⟨fun p hp => h.all.1 p (by simpa using hp), List.pairwise_reverse.2 h.all.2⟩
theorem Rp.not1 {x y : Pf} (hx : okP x) (hy : okP y) (h : Rp x y) : contB x.f0 x.f1 y.f0 y.f1 = false := by
  cases hb : contB x.f0 x.f1 y.f0 y.f1 with
  | false => rfl
  | true => have := ((cont_iff hx hy).1 hb).2.2; have := h.1; omega
theorem Rp.not2 {x y : Pf} (hx : okP x) (hy : okP y) (h : Rp x y) : contB y.f0 y.f1 x.f0 x.f1 = false := by
  cases hb : contB y.f0 y.f1 x.f0 x.f1 with
  | false => rfl
  | true => have := ((cont_iff hy hx).1 hb).2.1; have := h.1; have := hi_pos x; omega
/-- the plain list of any -/
theorem plain_ev (l : List Pf) (hl : l.length ≤ 1000000) (ho : ∀ p ∈ l, okP p) : ∃ z, Evt (fun k => addr_plain.f k l) z ∧ Pln z ∧ (∀ a, cov z a ↔ cov l a) ∧ Evt (fun k => addr_plain.f k l.reverse) z ∧ z.length ≤ l.length := by
  obtain ⟨s, h1, h2, h3, h9⟩ := go_ev (sortP l) [] trivial (fun p hp => ho p ((sortP_perm l).subset hp)) (sortP_sorted l) (by intro y r e; cases e)
  have hb : Evt (fun k => (addr_plain.go k [] (sortP l)).bind fun z => some z.reverse) s.reverse := Evt.bind h1 (Evt.of fun k => rfl)
  refine ⟨s.reverse, ?_, h2.pln, fun a => ?_, ?_, by have := (sortP_perm l).length_eq; simp at h9 ⊢; omega⟩
  · unfold addr_plain.f; exact Evt.ite_pos hl hb
  · have e1 : cov s.reverse a ↔ cov s a := by unfold cov; simp
    have e2 : cov (sortP l) a ↔ cov l a := by
      unfold cov
      constructor
      · rintro ⟨p, hp, h⟩; exact ⟨p, (sortP_perm l).subset hp, h⟩
      · rintro ⟨p, hp, h⟩; exact ⟨p, (sortP_perm l).symm.subset hp, h⟩
    rw [e1, h3 a, e2]; unfold cov; simp
  · unfold addr_plain.f; rw [sortP_rev]; exact Evt.ite_pos (by simpa using hl) hb
end Go.Proofs.Ytckffheolnmcnaa.P

end
section
set_option linter.unusedVariables false
set_option linter.unusedSimpArgs false
namespace Go.Proofs.Ytckffheolnmcnaa.P
open Go.RowKit Go.Sort Go.Proofs.YtckffheolnmcnaaW.PrintWords Go.Proofs.YtckffheolnmcnaaW.PrintLast Go.Proofs.YtckffheolnmcnaaW.PrintMore

theorem rd_at {l : List Pf} {i : Int} {x : Pf} (h : l[i.toNat]? = some x) : rd_T30 l i = x := by
  unfold rd_T30; rw [List.getD_eq_getElem?_getD, h]; rfl
theorem at_ex {l : List Pf} {i : Int} (h0 : 0 ≤ i) (h : i < l.length) : ∃ x, l[i.toNat]? = some x ∧ x ∈ l ∧ l.drop i.toNat = x :: l.drop (i.toNat + 1) ∧ rd_T30 l i = x := by
  have hh : i.toNat < l.length := by omega
  exact ⟨l[i.toNat], List.getElem?_eq_getElem hh, List.getElem_mem hh, List.drop_eq_getElem_cons hh, rd_at (List.getElem?_eq_getElem hh)⟩
def whyL (l : List Pf) : Int := if l.length > 1024 then 2 else if l.all (fun p => mayB p.f0 p.f1) then 0 else 1
theorem whyL_ok {l : List Pf} (hA : ∀ p ∈ l, isA p.f0) : whyL l = 0 ↔ l.length ≤ 1024 ∧ ∀ p ∈ l, okP p := by
  unfold whyL okP
  by_cases h : l.length > 1024
  · rw [if_pos h]; simp; omega
  · rw [if_neg h]
    by_cases h2 : l.all (fun p => mayB p.f0 p.f1) = true
    · rw [if_pos h2]
      rw [List.all_eq_true] at h2
      simp only [true_iff]
      exact ⟨by omega, fun p hp => ⟨hA p hp, h2 p hp⟩⟩
    · rw [if_neg h2]
      simp only [Int.one_ne_zero, false_iff, not_and]
      intro _ h3
      exact h2 (List.all_eq_true.2 fun p hp => (h3 p hp).2)
theorem check_ev (l : List Pf) (hA : ∀ p ∈ l, isA p.f0) : Evt (fun k => addr_check.f k l) (whyL l) := by
  unfold addr_check.f whyL
  by_cases h : l.length > 1024
  · rw [if_pos h]; exact Evt.ite_pos (by omega) (Evt.of fun k => rfl)
  · rw [if_neg h]
    refine Evt.ite_neg (by omega) ?_
    have key : ∀ (d : Nat) (i : Int), 0 ≤ i → i ≤ l.length → l.length - i = d → Evt (fun k => addr_check.l0 k l (l.length : Int) i) (if (l.drop i.toNat).all (fun p => mayB p.f0 p.f1) = true then 0 else 1) := by
      intro d
      induction d with
      | zero =>
        intro i h0 h1 hd
        refine Evt.step ?_
        simp only [addr_check.l0]
        rw [List.drop_eq_nil_of_le (by omega)]
        exact Evt.ite_neg (by omega) (Evt.of fun k => rfl)
      | succ d ih =>
        intro i h0 h1 hd
        obtain ⟨x, e1, e2, e3, e4⟩ := at_ex h0 (show i < l.length by omega)
        refine Evt.step ?_
        simp only [addr_check.l0]
        rw [e4, e3, List.all_cons]
        refine Evt.ite_pos (by omega) (Evt.ite_pos h0 (Evt.ite_pos (by omega) (Evt.bindc (may_is _ _ (hA x e2)) ?_)))
        by_cases hm : mayB x.f0 x.f1 = true
        · rw [hm, Bool.true_and, wrap64_in _ (by omega) (by omega)]
          have := ih (i + 1) (by omega) (by omega) (by omega)
          rw [show (i + 1).toNat = i.toNat + 1 by omega] at this
          exact Evt.ite_pos (by first | rfl | trivial) this
        · simp at hm
          rw [hm]
          exact Evt.ite_neg (by decide) (Evt.of fun k => rfl)
    exact key l.length 0 (by omega) (by omega) (by omega)
theorem why_ev (l : List Pf) (hA : ∀ p ∈ l, isA p.f0) : Evt (fun k => whirligigref01_Why.f k l) (whyL l) := by
  unfold whirligigref01_Why.f whyL
  by_cases h : l.length > 1024
  · rw [if_pos h]; exact Evt.ite_pos (by omega) (Evt.of fun k => rfl)
  · rw [if_neg h]
    refine Evt.ite_neg (by omega) ?_
    have key : ∀ (d : Nat) (i : Int), 0 ≤ i → i ≤ l.length → l.length - i = d → Evt (fun k => whirligigref01_Why.l0 k l i) (if (l.drop i.toNat).all (fun p => mayB p.f0 p.f1) = true then 0 else 1) := by
      intro d
      induction d with
      | zero =>
        intro i h0 h1 hd
        refine Evt.step ?_
        simp only [whirligigref01_Why.l0]
        rw [List.drop_eq_nil_of_le (by omega)]
        exact Evt.ite_neg (by omega) (Evt.of fun k => rfl)
      | succ d ih =>
        intro i h0 h1 hd
        obtain ⟨x, e1, e2, e3, e4⟩ := at_ex h0 (show i < l.length by omega)
        refine Evt.step ?_
        simp only [whirligigref01_Why.l0]
        rw [e4, e3, List.all_cons]
        refine Evt.ite_pos (by omega) (Evt.ite_pos h0 (Evt.bind (refMay_ev _ _ (hA x e2)) ?_))
        by_cases hm : mayB x.f0 x.f1 = true
        · rw [hm, Bool.true_and, wrap64_in _ (by omega) (by omega)]
          have := ih (i + 1) (by omega) (by omega) (by omega)
          rw [show (i + 1).toNat = i.toNat + 1 by omega] at this
          exact Evt.ite_pos (by first | rfl | trivial) this
        · simp at hm
          rw [hm]
          exact Evt.ite_neg (by decide) (Evt.of fun k => rfl)
    exact key l.length 0 (by omega) (by omega) (by omega)
def covB (l : List Pf) (z : Int) : Bool := l.any (fun p => inB p.f0 p.f1 z)
theorem covB_iff {l : List Pf} (h : ∀ p ∈ l, okP p) (z : Int) : covB l z = true ↔ cov l z := by
  unfold covB cov
  rw [List.any_eq_true]
  constructor
  · rintro ⟨p, hp, e⟩; exact ⟨p, hp, (in_iff _ _ _ (h p hp).bits.2.2).1 e⟩
  · rintro ⟨p, hp, e⟩; exact ⟨p, hp, (in_iff _ _ _ (h p hp).bits.2.2).2 e⟩
theorem In_ev (l : List Pf) (h : ∀ p ∈ l, okP p) (hl : l.length ≤ 1000000) (z : Int) (hz : isA z) : Evt (fun k => whirligigref01_In.f k l z) (covB l z) := by
  unfold whirligigref01_In.f covB
  have key : ∀ (d : Nat) (i : Int), 0 ≤ i → i ≤ l.length → l.length - i = d → Evt (fun k => whirligigref01_In.l0 k l z i) ((l.drop i.toNat).any (fun p => inB p.f0 p.f1 z)) := by
    intro d
    induction d with
    | zero =>
      intro i h0 h1 hd
      refine Evt.step ?_
      simp only [whirligigref01_In.l0]
      rw [List.drop_eq_nil_of_le (by omega)]
      exact Evt.ite_neg (by omega) (Evt.of fun k => rfl)
    | succ d ih =>
      intro i h0 h1 hd
      obtain ⟨x, e1, e2, e3, e4⟩ := at_ex h0 (show i < l.length by omega)
      refine Evt.step ?_
      simp only [whirligigref01_In.l0]
      rw [e4, e3, List.any_cons]
      refine Evt.ite_pos (by omega) (Evt.ite_pos h0 (Evt.bind (refHas_ev _ _ _ (h x e2).1 hz (h x e2).2) ?_))
      by_cases hm : inB x.f0 x.f1 z = true
      · rw [hm]; exact Evt.ite_pos (by first | rfl | trivial) (Evt.of fun k => rfl)
      · simp at hm
        rw [hm, Bool.false_or, wrap64_in _ (by omega) (by omega)]
        have := ih (i + 1) (by omega) (by omega) (by omega)
        rw [show (i + 1).toNat = i.toNat + 1 by omega] at this
        exact Evt.ite_neg (by decide) this
  exact key l.length 0 (by omega) (by omega) (by omega)
theorem Up_ev (a b : Int) (ha : isA a) (h0 : 1 ≤ b) (h1 : b ≤ 32) : Evt (fun k => whirligigref01_Up.f k a b) (flo a (b - 1), b - 1) := by
  unfold whirligigref01_Up.f
  rw [wrap64_in _ (by omega) (by omega)]
  have hf := flo_isA a (b - 1) ha
  have two : ∀ (d : Nat) (i x : Int), b - 1 ≤ i → i ≤ 32 → 32 - i = d → 0 ≤ x → x * un i = flo a (b - 1) → Evt (fun k => whirligigref01_Up.l0 k i a b x (b - 1)) (flo a (b - 1), b - 1) := by
    intro d
    induction d with
    | zero =>
      intro i x h2 h3 hd hx he
      obtain rfl : i = 32 := by omega
      have : un 32 = 1 := rfl
      rw [this, Int.mul_one] at he
      refine Evt.step ?_
      simp only [whirligigref01_Up.l0]
      exact Evt.ite_neg (by omega) (Evt.of fun k => by rw [he])
    | succ d ih =>
      intro i x h2 h3 hd hx he
      have hu := un_succ i (by omega)
      have hp := un_pos (i + 1)
      have he' : x * 2 * un (i + 1) = flo a (b - 1) := by rw [Int.mul_assoc, ← hu]; exact he
      have hle : x * 2 * 1 ≤ x * 2 * un (i + 1) := Int.mul_le_mul_of_nonneg_left (by omega) (by omega)
      have hmod : x * 2 % 4294967296 = x * 2 := Int.emod_eq_of_lt (by omega) (by have := hf.2; omega)
      have := ih (i + 1) (x * 2) (by omega) (by omega) (by omega) (by omega) he'
      refine Evt.step ?_
      simp only [whirligigref01_Up.l0]
      rw [wrap64_in _ (by omega) (by omega), hmod]
      exact Evt.ite_pos (by omega) (Evt.ite_neg (by omega) this)
  have one : ∀ (d : Nat) (i : Int), 0 ≤ i → i ≤ b - 1 → b - 1 - i = d → Evt (fun k => whirligigref01_Up.l0 k i a b (a / un i) (b - 1)) (flo a (b - 1), b - 1) := by
    intro d
    induction d with
    | zero =>
      intro i h2 h3 hd
      obtain rfl : i = b - 1 := by omega
      have hp := un_pos (b - 1)
      refine two (32 - (b - 1)).toNat (b - 1) _ (by omega) (by omega) (by omega) (Int.ediv_nonneg ha.1 (by omega)) ?_
      have := Int.emod_add_mul_ediv a (un (b - 1))
      rw [Int.mul_comm]
      unfold flo; omega
    | succ d ih =>
      intro i h2 h3 hd
      have hu := un_succ i (by omega)
      have hp := un_pos (i + 1)
      have ea : a / un i = a / un (i + 1) / 2 := by rw [Int.ediv_ediv_of_nonneg (Int.le_of_lt hp), Int.mul_comm, ← hu]
      have e0 : 0 ≤ a / un (i + 1) := Int.ediv_nonneg ha.1 (by omega)
      have e1 : a / un (i + 1) ≤ a := Int.ediv_le_self _ ha.1
      have e2 : a / un i * 2 + bitI a i = a / un (i + 1) := by unfold bitI; omega
      have := ih (i + 1) (by omega) (by omega) (by omega)
      refine Evt.step ?_
      simp only [whirligigref01_Up.l0]
      refine Evt.ite_pos (by omega) (Evt.ite_pos (by omega) (Evt.bind (refBit_ev a i ha h2 (by omega)) ?_))
      have hb : bitI a i = 0 ∨ bitI a i = 1 := by unfold bitI; omega
      have ha2 := ha.2
      rw [wrap64_in _ (by omega) (by omega), Int.emod_eq_of_lt (a := a / un i * 2) (by omega) (by omega), e2, Int.emod_eq_of_lt e0 (by omega)]
      exact this
  have := one (b - 1).toNat 0 (by omega) (by omega) (by omega)
  have e : a / un 0 = 0 := by
    have : un 0 = 4294967296 := rfl
    rw [this]; have := ha.1; have := ha.2; omega
  rw [e] at this
  exact this
theorem up_ne {x y : Pf} (hx : okP x) (hy : okP y) (h : Rp x y) (hb : x.f1 = y.f1) : 1 ≤ x.f1 ∧ flo x.f0 (x.f1 - 1) ≠ flo y.f0 (y.f1 - 1) := by
  obtain ⟨x0, x1, x2⟩ := hx.bits
  obtain ⟨y0, y1, y2⟩ := hy.bits
  have hlt : x.f0 < y.f0 := by have := hi_pos x; have := h.1; omega
  have hb1 : 1 ≤ x.f1 := by
    rcases Int.lt_or_le x.f1 1 with e | e
    · exfalso
      have e1 := flo_self _ _ x2
      have e2 := flo_self _ _ y2
      rw [show x.f1 = 0 by omega, flo_zero _ hx.1] at e1
      rw [show y.f1 = 0 by omega, flo_zero _ hy.1] at e2
      omega
    · exact e
  refine ⟨hb1, fun e => ?_⟩
  have h1 := (flo_down x.f0 x.f1 x1).2
  have h2 := (flo_down y.f0 y.f1 y1).2
  rw [flo_self _ _ x2] at h1
  rw [flo_self _ _ y2, ← e, ← hb] at h2
  have hpu := un_pos x.f1
  have hs : sisB x y = true := (sisB_iff x y).2 ⟨by omega, hb, by omega, by omega⟩
  rw [h.2] at hs
  exact absurd hs (by decide)
theorem IsPlain_ev (l : List Pf) (hl : l.length ≤ 1000000) (h : Pln l) : Evt (fun k => whirligigref01_IsPlain.f k l) true := by
  unfold whirligigref01_IsPlain.f
  have pr : ∀ (i j : Nat) (x y : Pf), i < j → l[i]? = some x → l[j]? = some y → Rp x y := by
    intro i j x y hij hx hy
    obtain ⟨hi, rfl⟩ := List.getElem?_eq_some_iff.1 hx
    obtain ⟨hj, rfl⟩ := List.getElem?_eq_some_iff.1 hy
    exact List.pairwise_iff_getElem.1 h.2 i j hi hj hij
  have outer : ∀ (d : Nat) (i : Int), 0 ≤ i → i ≤ l.length → l.length - i = d → Evt (fun k => whirligigref01_IsPlain.l0 k l i) true := by
    intro d
    induction d with
    | zero =>
      intro i h0 h1 hd
      refine Evt.step ?_
      simp only [whirligigref01_IsPlain.l0]
      exact Evt.ite_neg (by omega) (Evt.of fun k => rfl)
    | succ d ih =>
      intro i h0 h1 hd
      have next := ih (i + 1) (by omega) (by omega) (by omega)
      obtain ⟨y, y1, y2, _, y4⟩ := at_ex h0 (show i < l.length by omega)
      have hoy := h.1 y y2
      have inner : ∀ (e : Nat) (j : Int), 0 ≤ j → j ≤ i → i - j = e → Evt (fun k => whirligigref01_IsPlain.l1 k l i j) true := by
        intro e
        induction e with
        | zero =>
          intro j j0 j1 je
          refine Evt.step ?_
          simp only [whirligigref01_IsPlain.l1]
          rw [wrap64_in (i + 1) (by omega) (by omega)]
          exact Evt.ite_neg (by omega) next
        | succ e ihe =>
          intro j j0 j1 je
          have nx := ihe (j + 1) (by omega) (by omega) (by omega)
          obtain ⟨x, x1, x2, _, x4⟩ := at_ex j0 (show j < l.length by omega)
          have hox := h.1 x x2
          have hr := pr j.toNat i.toNat x y (by omega) x1 y1
          refine Evt.step ?_
          simp only [whirligigref01_IsPlain.l1]
          rw [x4, y4, wrap64_in (j + 1) (by omega) (by omega)]
          refine Evt.ite_pos (by omega) (Evt.ite_pos j0 (Evt.ite_pos (by omega) (Evt.ite_pos h0 (Evt.ite_pos (by omega) ?_))))
          refine Evt.bind (refContains_ev _ _ _ _ hox.1 hoy.1) ?_
          refine Evt.ite_neg (by rw [hr.not1 hox hoy]; decide) (Evt.bind (refContains_ev _ _ _ _ hoy.1 hox.1) (Evt.ite_neg (by rw [hr.not2 hox hoy]; decide) ?_))
          by_cases hb : x.f1 = y.f1
          · obtain ⟨u1, u2⟩ := up_ne hox hoy hr hb
            refine Evt.ite_pos hb (Evt.bind (Up_ev _ _ hox.1 u1 hox.bits.2.1) (Evt.bind (Up_ev _ _ hoy.1 (by omega) hoy.bits.2.1) (Evt.ite_neg ?_ nx)))
            simp only [Bool.and_eq_true, beq_iff_eq, not_and]
            intro e; exact absurd e u2
          · exact Evt.ite_neg hb nx
      have inn := inner i.toNat 0 (by omega) h0 (by omega)
      have j1 : Evt (fun k => whirligigref01_IsPlain.j1 k l i false) true := by
        refine Evt.step ?_
        simp only [whirligigref01_IsPlain.j1]
        exact Evt.ite_neg (by decide) inn
      refine Evt.step ?_
      simp only [whirligigref01_IsPlain.l0]
      rw [y4]
      refine Evt.ite_pos (by omega) (Evt.ite_pos h0 (Evt.bind (refMay_ev _ _ hoy.1) (Evt.ite_pos hoy.2 ?_)))
      by_cases hi : i > 0
      · obtain ⟨x, x1, x2, _, x4⟩ := at_ex (show 0 ≤ i - 1 by omega) (show i - 1 < l.length by omega)
        have hox := h.1 x x2
        have hr := pr (i - 1).toNat i.toNat x y (by omega) x1 y1
        have hlt : x.f0 < y.f0 := by have := hi_pos x; have := hr.1; omega
        have eb : whirligigref01_Before.f x.f0 x.f1 y.f0 y.f1 = some true := by
          unfold whirligigref01_Before.f
          rw [if_neg (by omega)]; simp [hlt]
        rw [wrap64_in (i - 1) (by omega) (by omega), x4]
        exact Evt.ite_pos hi (Evt.ite_pos (by omega) (Evt.ite_pos (by omega) (Evt.bindc eb j1)))
      · exact Evt.ite_neg hi j1
  exact outer l.length 0 (by omega) (by omega) (by omega)
end Go.Proofs.Ytckffheolnmcnaa.P

end
section
namespace Go.Proofs.Ytckffheolnmcnaa.Pure
open Go.RowKit Go.Proofs.Ytckffheolnmcnaa.P Go.Proofs.YtckffheolnmcnaaW.PrintWords Go.Proofs.YtckffheolnmcnaaW.PrintLast Go.Proofs.YtckffheolnmcnaaW.PrintMore
set_option linter.unusedVariables false
set_option linter.unusedSimpArgs false

theorem lastLoop_ev (a b : Int) (ha : isA a) (hb : mayB a b = true) : ∀ (n : Nat) (i : Int), i = b - 1 + n → i ≤ 31 → Evt (fun k => whirligigref01_last.l0 k (a + un (i + 1) - 1) (un (i + 1) % 4294967296) i a b) (a + (un b - 1)) := by
  obtain ⟨b0, b1, b2⟩ := (mayB_iff a b).1 hb
  intro n
  induction n with
  | zero =>
    intro i hi h1
    refine Evt.step ?_
    simp only [whirligigref01_last.l0]
    refine Evt.ite_neg (by omega) (Evt.of fun k => ?_)
    rw [show i + 1 = b by omega, show a + un b - 1 = a + (un b - 1) by omega]
  | succ n ih =>
    intro i hi h1
    have := ih (i - 1) (by omega) (by omega)
    refine Evt.step ?_
    simp only [whirligigref01_last.l0]
    refine Evt.ite_pos (by omega) ?_
    have hp := un_pos (i + 1)
    have hu := un_succ i (by omega)
    have hle := top_le a b ha hb
    have hub : ∀ (m : Nat) (j : Int), j = b + m → j ≤ 32 → un j ≤ un b := by
      intro m
      induction m with
      | zero => intro j hj _; rw [hj]; simp
      | succ m ihm =>
        intro j hj hj2
        have h3 := ihm (j - 1) (by omega) (by omega)
        have h4 := un_succ (j - 1) (by omega)
        rw [show j - 1 + 1 = j by omega] at h4
        have := un_pos j
        omega
    have h5 := hub n i (by omega) (by omega)
    have ha0 := ha.1
    rw [show i - 1 + 1 = i by omega] at this
    rw [wrap64_in _ (by omega) (by omega), Int.emod_eq_of_lt (a := un (i + 1)) (by omega) (by omega), Int.emod_eq_of_lt (a := a + un (i + 1) - 1 + un (i + 1)) (by omega) (by omega)]
    rw [show a + un (i + 1) - 1 + un (i + 1) = a + un i - 1 by omega, show un (i + 1) * 2 = un i by omega]
    exact this
theorem last_ev (a b : Int) (ha : isA a) (hb : mayB a b = true) : Evt (fun k => whirligigref01_last.f k a b) (a + (un b - 1)) := by
  obtain ⟨b0, b1, b2⟩ := (mayB_iff a b).1 hb
  have := lastLoop_ev a b ha hb (32 - b).toNat 31 (by omega) (by omega)
  have e : un (31 + 1) = 1 := rfl
  rw [e, show a + 1 - 1 = a by omega] at this
  exact this
theorem Edges_ev (l : List Pf) (hl : l.length ≤ 1024) (ho : ∀ p ∈ l, okP p) : ∃ r : List Int, Evt (fun k => whirligigref01_Edges.f k l) r ∧ r.length ≤ 4098 ∧ ∀ z ∈ r, isA z := by
  unfold whirligigref01_Edges.f
  have key : ∀ (d : Nat) (i : Int) (r : List Int), 0 ≤ i → i ≤ l.length → l.length - i = d → (∀ z ∈ r, isA z) → r.length + 4 * d ≤ 4098 → ∃ r' : List Int, Evt (fun k => whirligigref01_Edges.l0 k l r i) r' ∧ r'.length ≤ 4098 ∧ ∀ z ∈ r', isA z := by
    intro d
    induction d with
    | zero =>
      intro i r h0 h1 hd hr hn
      refine ⟨r, Evt.step ?_, by omega, hr⟩
      simp only [whirligigref01_Edges.l0]
      exact Evt.ite_neg (by omega) (Evt.of fun k => rfl)
    | succ d ih =>
      intro i r h0 h1 hd hr hn
      obtain ⟨x, e1, e2, e3, e4⟩ := at_ex h0 (show i < l.length by omega)
      have hox := ho x e2
      have hL := last_ev _ _ hox.1 hox.2
      obtain ⟨r', g1, g2, g3⟩ := ih (i + 1) (r ++ [x.f0, (x.f0 - 1) % 4294967296, x.f0 + (un x.f1 - 1), (x.f0 + (un x.f1 - 1) + 1) % 4294967296]) (by omega) (by omega) (by omega) (fun z hz => by
        rcases List.mem_append.1 hz with hz | hz
        · exact hr z hz
        · have := top_le _ _ hox.1 hox.2
          have := un_pos x.f1
          have := hox.1.1
          have := hox.1.2
          simp at hz
          rcases hz with rfl | rfl | rfl | rfl <;> constructor <;> omega) (by simp; omega)
      refine ⟨r', Evt.step ?_, g2, g3⟩
      simp only [whirligigref01_Edges.l0]
      rw [e4]
      refine Evt.ite_pos (by omega) (Evt.ite_pos h0 (Evt.bind hL (Evt.bind hL (Evt.bindc rfl (Evt.ite_pos (by simp; omega) ?_)))))
      rw [wrap64_in _ (by omega) (by omega)]
      exact g1
  obtain ⟨r, h1, h2, h3⟩ := key l.length 0 [0, 4294967295] (by omega) (by omega) (by omega) (fun z hz => by simp at hz; rcases hz with rfl | rfl <;> constructor <;> omega) (by simp; omega)
  exact ⟨r, h1, h2, h3⟩
end Go.Proofs.Ytckffheolnmcnaa.Pure

end
section
namespace Go.Proofs.Ytckffheolnmcnaa.Pure
open Go.RowKit Go.Proofs.Ytckffheolnmcnaa.P Go.Proofs.YtckffheolnmcnaaW.PrintWords Go.Proofs.YtckffheolnmcnaaW.PrintLast Go.Proofs.YtckffheolnmcnaaW.PrintMore
set_option linter.unusedVariables false
set_option linter.unusedSimpArgs false

theorem share {p q : Pf} (hp : okP p) (hq : okP q) (hb : q.f1 ≤ p.f1) (a : Int) (h1 : hasP p a) (h2 : hasP q a) : hasP q p.f0 := by
  have e1 := (in_iff p.f0 p.f1 a hp.bits.2.2).2 h1
  have e2 := (in_iff q.f0 q.f1 a hq.bits.2.2).2 h2
  unfold inB at e1 e2
  rw [decide_eq_true_eq] at e1 e2
  have e3 : flo a p.f1 = p.f0 := e1
  have e4 : flo a q.f1 = q.f0 := e2
  have e5 := flo_flo a p.f1 q.f1 hp.bits.2.1 hb
  rw [e3, e4] at e5
  apply (in_iff q.f0 q.f1 p.f0 hq.bits.2.2).1
  unfold inB
  rw [decide_eq_true_eq]
  exact e5
theorem halvesP {p : Pf} (hp : okP p) (h : p.f1 ≠ 32) : addr_halves.f p.f0 p.f1 = some (p.f0, p.f1 + 1, p.f0 + un (p.f1 + 1), p.f1 + 1) ∧ okP ⟨p.f0, p.f1 + 1⟩ ∧ okP ⟨p.f0 + un (p.f1 + 1), p.f1 + 1⟩ ∧ hiP ⟨p.f0, p.f1 + 1⟩ = p.f0 + un (p.f1 + 1) ∧ hiP ⟨p.f0 + un (p.f1 + 1), p.f1 + 1⟩ = hiP p := by
  obtain ⟨b0, b1, b2⟩ := hp.bits
  have hu := un_succ p.f1 (by omega)
  have hpo := un_pos (p.f1 + 1)
  have h1 : p.f0 % un (p.f1 + 1) = 0 := mod_long p.f0 (p.f1 + 1) p.f1 (by omega) (by omega) b2
  have h2 : (p.f0 + un (p.f1 + 1)) % un (p.f1 + 1) = 0 := by rw [Int.add_emod_right]; exact h1
  have ht := top_le _ _ hp.1 hp.2
  have ha := hp.1.1
  refine ⟨?_, ⟨hp.1, (mayB_iff _ _).2 ⟨by show 0 ≤ p.f1 + 1; omega, by show p.f1 + 1 ≤ 32; omega, h1⟩⟩, ⟨⟨by show 0 ≤ p.f0 + un (p.f1 + 1); omega, by show p.f0 + un (p.f1 + 1) ≤ 4294967295; omega⟩, (mayB_iff _ _).2 ⟨by show 0 ≤ p.f1 + 1; omega, by show p.f1 + 1 ≤ 32; omega, h2⟩⟩, rfl, by unfold hiP; show p.f0 + un (p.f1 + 1) + un (p.f1 + 1) = p.f0 + un p.f1; omega⟩
  have := halves_is _ _ hp.1 hp.2 h
  unfold addr_Halves.f at this
  rw [may_is _ _ hp.1, Option.bind_some, if_pos hp.2, if_neg h] at this
  obtain ⟨t, ht, h3⟩ := Option.bind_eq_some_iff.mp this
  rw [ht]
  simp only [Option.some.injEq, Prod.mk.injEq] at h3
  obtain ⟨e1, e2, e3, e4, _⟩ := h3
  obtain ⟨t1, t2, t3, t4⟩ := t
  dsimp only at e1 e2 e3 e4
  subst e1; subst e2; subst e3; subst e4; rfl
theorem cut_ev (q : Pf) (hq : okP q) (z : List Pf) (n i : Int) (hi : 0 ≤ i) (hi2 : i ≤ 1000000) : ∀ (d : Nat) (p : Pf), okP p → 32 - p.f1 = d →
    ∃ ys : List Pf, (∀ y ∈ ys, okP y) ∧ ys.length ≤ d + 1 ∧ (∀ a, cov ys a ↔ hasP p a ∧ ¬ hasP q a) ∧ ∀ (acc : List Pf) (r : List Pf × Int), acc.length + d + 1 ≤ 100000 → Evt (fun k => addr_Minus.l0 k (acc ++ ys) z n (i + 1) q.f0 q.f1) r → Evt (fun k => addr_Minus.l1 k acc z n i q.f0 q.f1 p.f0 p.f1) r := by
  have stay : ∀ p : Pf, okP p → ¬ (contB p.f0 p.f1 q.f0 q.f1 = true ∧ p ≠ q) → ∃ ys : List Pf, (∀ y ∈ ys, okP y) ∧ ys.length ≤ 1 ∧ (∀ a, cov ys a ↔ hasP p a ∧ ¬ hasP q a) ∧ ∀ (acc : List Pf) (r : List Pf × Int), acc.length + 1 ≤ 100000 → Evt (fun k => addr_Minus.l0 k (acc ++ ys) z n (i + 1) q.f0 q.f1) r → Evt (fun k => addr_Minus.j2 k acc z n i false q.f0 q.f1 p.f0 p.f1) r := by
    intro p hp hno
    by_cases hc : contB q.f0 q.f1 p.f0 p.f1 = true
    · refine ⟨[], by simp, by simp, fun a => ?_, fun acc r hn h => ?_⟩
      · obtain ⟨c1, c2⟩ := (cont_iff hq hp).1 hc
        have hnst := nest hq hp c1 c2
        unfold cov hasP
        have := c2.1
        constructor
        · rintro ⟨_, h, _⟩; exact absurd h (by simp)
        · rintro ⟨h1, h2⟩; exact absurd ⟨by have := h1.1; omega, by have := h1.2; omega⟩ h2
      · refine Evt.step ?_
        simp only [addr_Minus.j2]
        rw [List.append_nil] at h
        rw [wrap64_in _ (by omega) (by omega)]
        exact Evt.ite_neg (by decide) (Evt.bindc (contains_is _ _ _ _ hq.1 hp.1) (Evt.ite_pos hc h))
    · refine ⟨[p], by simpa using hp, by simp, fun a => ?_, fun acc r hn h => ?_⟩
      · have hdis : hasP p a → ¬ hasP q a := by
          intro h1 h2
          rcases Int.lt_or_le p.f1 q.f1 with hb | hb
          · exact hno ⟨(cont_iff hp hq).2 ⟨by omega, share hq hp (by omega) a h2 h1⟩, fun e => by rw [e] at hb; omega⟩
          · exact hc ((cont_iff hq hp).2 ⟨hb, share hp hq hb a h1 h2⟩)
        have : cov [p] a ↔ hasP p a := by unfold cov; simp
        rw [this]
        exact ⟨fun h => ⟨h, hdis h⟩, fun h => h.1⟩
      · refine Evt.step ?_
        simp only [addr_Minus.j2]
        rw [wrap64_in _ (by omega) (by omega)]
        exact Evt.ite_neg (by decide) (Evt.bindc (contains_is _ _ _ _ hq.1 hp.1) (Evt.ite_neg hc (Evt.ite_pos (by omega) h)))
  have flag : ∀ (p : Pf), okP p → ∀ (acc : List Pf) (r : List Pf × Int) (b : Bool), (b = true ↔ contB p.f0 p.f1 q.f0 q.f1 = true ∧ p ≠ q) → Evt (fun k => addr_Minus.j2 k acc z n i b q.f0 q.f1 p.f0 p.f1) r → Evt (fun k => addr_Minus.l1 k acc z n i q.f0 q.f1 p.f0 p.f1) r := by
    intro p hp acc r b hb h
    refine Evt.step ?_
    simp only [addr_Minus.l1]
    refine Evt.bindc (contains_is _ _ _ _ hp.1 hq.1) ?_
    by_cases hc : contB p.f0 p.f1 q.f0 q.f1 = true
    · refine Evt.ite_pos hc ?_
      have e : (!(p.f0 == q.f0) || !(p.f1 == q.f1)) = b := by
        have hpq : p = q ↔ p.f0 = q.f0 ∧ p.f1 = q.f1 := by cases p; cases q; simp
        cases b with
        | true =>
          have := (hb.1 rfl).2
          rw [Ne, hpq] at this
          by_cases e0 : p.f0 = q.f0 <;> by_cases e1 : p.f1 = q.f1 <;> simp [e0, e1] at this ⊢
        | false =>
          have : p = q := by
            by_cases e : p = q
            · exact e
            · exact absurd (hb.2 ⟨hc, e⟩) (by decide)
          rw [this]; simp
      rw [e]; exact h
    · have e : b = false := by
        cases b with
        | false => rfl
        | true => exact absurd (hb.1 rfl).1 hc
      rw [e] at h
      exact Evt.ite_neg hc h
  intro d
  induction d with
  | zero =>
    intro p hp hd
    have hno : ¬ (contB p.f0 p.f1 q.f0 q.f1 = true ∧ p ≠ q) := by
      rintro ⟨h1, h2⟩
      obtain ⟨c1, c2⟩ := (cont_iff hp hq).1 h1
      have := hq.bits.2.1
      have e1 : q.f1 = p.f1 := by omega
      have e2 := nest2 hp hq (by omega) c2
      apply h2; cases p; cases q; simp at e1 e2 ⊢; exact ⟨e2.symm, e1.symm⟩
    obtain ⟨ys, y1, y2, y3, y4⟩ := stay p hp hno
    exact ⟨ys, y1, by omega, y3, fun acc r hn h => flag p hp acc r false ⟨fun h => absurd h (by decide), fun h => absurd h hno⟩ (y4 acc r (by omega) h)⟩
  | succ d ih =>
    intro p hp hd
    by_cases hs : contB p.f0 p.f1 q.f0 q.f1 = true ∧ p ≠ q
    · obtain ⟨c1, c2⟩ := (cont_iff hp hq).1 hs.1
      obtain ⟨hh, o1, o2, e1, e2⟩ := halvesP hp (by omega)
      have hlt : p.f1 < q.f1 := by
        rcases Int.lt_or_eq_of_le c1 with h | h
        · exact h
        · exfalso
          have e2 := nest2 hp hq (by omega) c2
          apply hs.2; cases p; cases q; simp at h e2 ⊢; exact ⟨e2.symm, h⟩
      have hpo := un_pos (p.f1 + 1)
      have hmid : p.f0 + un (p.f1 + 1) < hiP p := by
        have := hi_pos (⟨p.f0 + un (p.f1 + 1), p.f1 + 1⟩ : Pf)
        rw [e2] at this; exact this
      by_cases h2 : contB (p.f0 + un (p.f1 + 1)) (p.f1 + 1) q.f0 q.f1 = true
      · obtain ⟨g1, g2⟩ := (cont_iff o2 hq).1 h2
        have hn := nest o2 hq g1 g2
        rw [e2] at hn
        have g3 : p.f0 + un (p.f1 + 1) ≤ q.f0 := g2.1
        obtain ⟨ys, y1, y2, y3, y4⟩ := ih ⟨p.f0 + un (p.f1 + 1), p.f1 + 1⟩ o2 (by show 32 - (p.f1 + 1) = _; omega)
        refine ⟨⟨p.f0, p.f1 + 1⟩ :: ys, ?_, by simp; omega, fun a => ?_, fun acc r hl h => ?_⟩
        · intro y hy
          rcases List.mem_cons.1 hy with rfl | hy
          · exact o1
          · exact y1 y hy
        · have hc : cov (⟨p.f0, p.f1 + 1⟩ :: ys) a ↔ hasP ⟨p.f0, p.f1 + 1⟩ a ∨ cov ys a := by unfold cov; simp
          rw [hc, y3 a]
          unfold hasP
          rw [e1, e2]
          show (p.f0 ≤ a ∧ a < p.f0 + un (p.f1 + 1)) ∨ ((p.f0 + un (p.f1 + 1) ≤ a ∧ a < hiP p) ∧ ¬ (q.f0 ≤ a ∧ a < hiP q)) ↔ (p.f0 ≤ a ∧ a < hiP p) ∧ ¬ (q.f0 ≤ a ∧ a < hiP q)
          omega
        · refine flag p hp acc r true ⟨fun _ => hs, fun _ => rfl⟩ (Evt.step ?_)
          simp only [addr_Minus.j2]
          refine Evt.ite_pos (by first | rfl | trivial) (Evt.bindc hh (Evt.bindc (contains_is _ _ _ _ o2.1 hq.1) (Evt.ite_pos h2 (Evt.ite_pos (by omega) ?_))))
          exact y4 (acc ++ [⟨p.f0, p.f1 + 1⟩]) r (by simp; omega) (by simpa using h)
      · have g3 : q.f0 < p.f0 + un (p.f1 + 1) := by
          rcases Int.lt_or_le q.f0 (p.f0 + un (p.f1 + 1)) with h | h
          · exact h
          · exact absurd ((cont_iff o2 hq).2 ⟨by show p.f1 + 1 ≤ q.f1; omega, h, by rw [e2]; exact c2.2⟩) h2
        have hn := nest o1 hq (by show p.f1 + 1 ≤ q.f1; omega) ⟨c2.1, by rw [e1]; exact g3⟩
        rw [e1] at hn
        obtain ⟨ys, y1, y2, y3, y4⟩ := ih ⟨p.f0, p.f1 + 1⟩ o1 (by show 32 - (p.f1 + 1) = _; omega)
        refine ⟨⟨p.f0 + un (p.f1 + 1), p.f1 + 1⟩ :: ys, ?_, by simp; omega, fun a => ?_, fun acc r hl h => ?_⟩
        · intro y hy
          rcases List.mem_cons.1 hy with rfl | hy
          · exact o2
          · exact y1 y hy
        · have hc : cov (⟨p.f0 + un (p.f1 + 1), p.f1 + 1⟩ :: ys) a ↔ hasP ⟨p.f0 + un (p.f1 + 1), p.f1 + 1⟩ a ∨ cov ys a := by unfold cov; simp
          rw [hc, y3 a]
          unfold hasP
          rw [e1, e2]
          have hc1 := c2.1
          show (p.f0 + un (p.f1 + 1) ≤ a ∧ a < hiP p) ∨ ((p.f0 ≤ a ∧ a < p.f0 + un (p.f1 + 1)) ∧ ¬ (q.f0 ≤ a ∧ a < hiP q)) ↔ (p.f0 ≤ a ∧ a < hiP p) ∧ ¬ (q.f0 ≤ a ∧ a < hiP q)
          omega
        · refine flag p hp acc r true ⟨fun _ => hs, fun _ => rfl⟩ (Evt.step ?_)
          simp only [addr_Minus.j2]
          refine Evt.ite_pos (by first | rfl | trivial) (Evt.bindc hh (Evt.bindc (contains_is _ _ _ _ o2.1 hq.1) (Evt.ite_neg h2 (Evt.ite_pos (by omega) ?_))))
          exact y4 (acc ++ [⟨p.f0 + un (p.f1 + 1), p.f1 + 1⟩]) r (by simp; omega) (by simpa using h)
    · obtain ⟨ys, y1, y2, y3, y4⟩ := stay p hp hs
      exact ⟨ys, y1, by omega, y3, fun acc r hn h => flag p hp acc r false ⟨fun h => absurd h (by decide), fun h => absurd h hs⟩ (y4 acc r (by omega) h)⟩
theorem Minus_ev (l : List Pf) (q : Pf) (hl : l.length ≤ 30) (hw : whyL l = 0) (ho : ∀ p ∈ l, okP p) (hq : okP q) : ∃ x, Evt (fun k => addr_Minus.f k l q.f0 q.f1) (x, 0) ∧ Pln x ∧ x.length ≤ 990 ∧ ∀ a, cov x a ↔ cov l a ∧ ¬ hasP q a := by
  obtain ⟨z, h1, h2, h3, _, h5⟩ := plain_ev l (by omega) ho
  have key : ∀ (d : Nat) (i : Int), 0 ≤ i → i ≤ z.length → z.length - i = d → ∃ ys : List Pf, (∀ y ∈ ys, okP y) ∧ ys.length ≤ 33 * d ∧ (∀ a, cov ys a ↔ cov (z.drop i.toNat) a ∧ ¬ hasP q a) ∧ ∀ (acc : List Pf) (r : List Pf × Int), acc.length + 33 * d ≤ 990 → Evt (fun k => (addr_plain.f k (acc ++ ys)).bind fun t => if (t.length : Int) > 1024 then some ([], 2) else some (t, 0)) r → Evt (fun k => addr_Minus.l0 k acc z (z.length : Int) i q.f0 q.f1) r := by
    intro d
    induction d with
    | zero =>
      intro i h0 h1 hd
      refine ⟨[], by simp, by simp, fun a => ?_, fun acc r hn h => Evt.step ?_⟩
      · rw [List.drop_eq_nil_of_le (by omega)]; unfold cov; simp
      · simp only [addr_Minus.l0]
        rw [List.append_nil] at h
        exact Evt.ite_neg (by omega) h
    | succ d ih =>
      intro i h0 h1 hd
      obtain ⟨p, e1, e2, e3, e4⟩ := at_ex h0 (show i < z.length by omega)
      have hop := h2.1 p e2
      have hb := hop.bits
      obtain ⟨ys, y1, y2, y3, y4⟩ := cut_ev q hq z (z.length : Int) i h0 (by omega) (32 - p.f1).toNat p hop (by omega)
      obtain ⟨xs, x1, x2, x3, x4⟩ := ih (i + 1) (by omega) (by omega) (by omega)
      refine ⟨ys ++ xs, ?_, by simp; omega, fun a => ?_, fun acc r hn h => Evt.step ?_⟩
      · intro y hy
        rcases List.mem_append.1 hy with hy | hy
        · exact y1 y hy
        · exact x1 y hy
      · have hc : cov (ys ++ xs) a ↔ cov ys a ∨ cov xs a := by unfold cov; simp [or_and_right, exists_or]
        have hc2 : cov (p :: z.drop (i.toNat + 1)) a ↔ hasP p a ∨ cov (z.drop (i.toNat + 1)) a := by unfold cov; simp
        rw [hc, y3 a, x3 a, e3, hc2, show (i + 1).toNat = i.toNat + 1 by omega, or_and_right]
      · simp only [addr_Minus.l0]
        rw [e4]
        refine Evt.ite_pos (by omega) (Evt.ite_pos h0 (Evt.ite_pos (by omega) (y4 acc r (by omega) (x4 (acc ++ ys) r (by simp; omega) ?_))))
        simpa using h
  obtain ⟨ys, y1, y2, y3, y4⟩ := key z.length 0 (by omega) (by omega) (by omega)
  obtain ⟨x, g1, g2, g3, _, g5⟩ := plain_ev ys (by omega) y1
  refine ⟨x, ?_, g2, by omega, fun a => ?_⟩
  · unfold addr_Minus.f
    have hc := check_ev l (fun p hp => (ho p hp).1)
    rw [hw] at hc
    refine Evt.bind hc (Evt.ite_pos (by first | rfl | trivial) (Evt.bindc (may_is _ _ hq.1) (Evt.ite_pos hq.2 (Evt.bind h1 ?_))))
    refine y4 [] (x, 0) (by simp; omega) ?_
    rw [List.nil_append]
    exact Evt.bind g1 (Evt.ite_neg (by omega) (Evt.of fun k => rfl))
  · rw [g3 a, y3 a]
    show cov (z.drop 0) a ∧ _ ↔ _
    rw [List.drop_zero, h3 a]
theorem AddrMinus (x0 : List S30) (x1 : S30) (x2 : Int) (ok_0 : (okL 16 (ok30)) x0) (ok_1 : (ok30) x1) (ok_2 : (okI .u32) x2) : ∃ k, Go.Proofs.Ytckffheolnmcnaa.P.whirligiglaw01_AddrMinus.f k x0 x1.f0 x1.f1 x2 = some true := by
  have hA : ∀ p ∈ x0, isA p.f0 := fun p hp => okI_u32 (ok_0.2 p hp).1
  have hqA : isA x1.f0 := okI_u32 ok_1.1
  have hz : isA x2 := okI_u32 ok_2
  refine Evt.ex ?_
  have hL : Evt (fun k => (whirligiglaw01_lives.f k).bind fun t => some t) true := Evt.bind lives_ev (Evt.pure _)
  unfold whirligiglaw01_AddrMinus.f
  have j0t : Evt (fun k => whirligiglaw01_AddrMinus.j0 k x0 x2 true x1.f0 x1.f1) true := by
    refine Evt.step ?_
    simp only [whirligiglaw01_AddrMinus.j0]
    exact Evt.ite_pos (by first | rfl | trivial) hL
  have j0f : (x0.length ≤ 30 ∨ 1024 < x0.length) → Evt (fun k => whirligiglaw01_AddrMinus.j0 k x0 x2 false x1.f0 x1.f1) true := by
    intro hlen
    refine Evt.step ?_
    simp only [whirligiglaw01_AddrMinus.j0]
    refine Evt.ite_neg (by decide) ?_
    have hwhy := why_ev x0 hA
    by_cases hw : whyL x0 = 0
    · obtain ⟨hle, ho⟩ := (whyL_ok hA).1 hw
      have h30 : x0.length ≤ 30 := by omega
      by_cases hm : mayB x1.f0 x1.f1 = true
      · have hq : okP x1 := ⟨hqA, hm⟩
        obtain ⟨x, m1, m2, m3, m4⟩ := Minus_ev x0 x1 h30 hw ho hq
        refine Evt.bind m1 (Evt.bind hwhy (Evt.ite_pos hw (Evt.bind (refMay_ev _ _ hqA) (Evt.ite_pos hm (Evt.ite_pos (by first | rfl | trivial) (Evt.bind (IsPlain_ev x (by omega) m2) ?_))))))
        obtain ⟨r1, a1, a2, a3⟩ := Edges_ev x0 (by omega) ho
        obtain ⟨r2, b1, b2, b3⟩ := Edges_ev x (by omega) m2.1
        obtain ⟨r3, c1, c2, c3⟩ := Edges_ev [x1] (by simp) (by simpa using hq)
        have hcov : ∀ e, isA e → covB x e = (covB x0 e && !inB x1.f0 x1.f1 e) := by
          intro e he
          have k1 := covB_iff ho e
          have k2 := covB_iff m2.1 e
          have k3 := m4 e
          have k4 := in_iff x1.f0 x1.f1 e hq.bits.2.2
          have k5 : inB x1.f0 x1.f1 e = true ↔ hasP x1 e := k4
          cases q1 : covB x0 e <;> cases q2 : covB x e <;> cases q3 : inB x1.f0 x1.f1 e <;> simp_all
        have loop : ∀ (es : List Int), (∀ e ∈ es, isA e) → es.length ≤ 100000 → ∀ (d : Nat) (i : Int), 0 ≤ i → i ≤ es.length → es.length - i = d → Evt (fun k => whirligiglaw01_AddrMinus.l0 k x0 x es i x1.f0 x1.f1) true := by
          intro es hes hn d
          induction d with
          | zero =>
            intro i h0 h1 hd
            refine Evt.step ?_
            simp only [whirligiglaw01_AddrMinus.l0]
            exact Evt.ite_neg (by omega) hL
          | succ d ih =>
            intro i h0 h1 hd
            have hi : i.toNat < es.length := by omega
            have e1 : rd es i = es[i.toNat] := by simp [rd, List.getD_eq_getElem?_getD, List.getElem?_eq_getElem hi]
            have he := hes _ (List.getElem_mem hi)
            rw [← e1] at he
            have nx := ih (i + 1) (by omega) (by omega) (by omega)
            refine Evt.step ?_
            simp only [whirligiglaw01_AddrMinus.l0]
            rw [wrap64_in (i + 1) (by omega) (by omega)]
            refine Evt.ite_pos (by omega) (Evt.ite_pos h0 (Evt.bind (In_ev x m2.1 (by omega) _ he) (Evt.bind (In_ev x0 ho (by omega) _ he) ?_)))
            have hc := hcov _ he
            by_cases hx : covB x0 (rd es i) = true
            · refine Evt.ite_pos hx (Evt.bind (refHas_ev _ _ _ hqA he hm) (Evt.ite_neg ?_ nx))
              rw [hc, hx]; simp
            · refine Evt.ite_neg hx (Evt.ite_neg ?_ nx)
              simp at hx
              rw [hc, hx]; simp
        have hl1 : Evt (fun k => whirligiglaw01_AddrMinus.l0 k x0 x (r1 ++ r2 ++ r3 ++ [x2]) 0 x1.f0 x1.f1) true := by
          refine loop _ (fun e he => ?_) (by simp; omega) (r1 ++ r2 ++ r3 ++ [x2]).length 0 (by omega) (by omega) (by omega)
          rcases List.mem_append.1 he with he | he
          · rcases List.mem_append.1 he with he | he
            · rcases List.mem_append.1 he with he | he
              · exact a3 e he
              · exact b3 e he
            · exact c3 e he
          · simp at he; subst he; exact hz
        refine Evt.step ?_
        simp only [whirligiglaw01_AddrMinus.j1]
        exact Evt.ite_neg (by decide) (Evt.bind a1 (Evt.bind b1 (Evt.ite_pos (by omega) (Evt.bindc rfl (Evt.bind c1 (Evt.ite_pos (by simp; omega) (Evt.bindc rfl (Evt.ite_pos (by simp; omega) hl1))))))))
      · have hM : Evt (fun k => addr_Minus.f k x0 x1.f0 x1.f1) ([], 1) := by
          unfold addr_Minus.f
          have hc := check_ev x0 hA
          rw [hw] at hc
          exact Evt.bind hc (Evt.ite_pos (by first | rfl | trivial) (Evt.bindc (may_is _ _ hqA) (Evt.ite_neg hm (Evt.of fun k => rfl))))
        exact Evt.bind hM (Evt.bind hwhy (Evt.ite_pos hw (Evt.bind (refMay_ev _ _ hqA) (Evt.ite_neg hm (Evt.ite_pos (by first | rfl | trivial) (Evt.ite_pos (by first | rfl | trivial) hL))))))
    · have hM : Evt (fun k => addr_Minus.f k x0 x1.f0 x1.f1) ([], whyL x0) := by
        unfold addr_Minus.f
        exact Evt.bind (check_ev x0 hA) (Evt.ite_neg hw (Evt.of fun k => rfl))
      exact Evt.bind hM (Evt.bind hwhy (Evt.ite_neg hw (Evt.ite_pos (by first | rfl | trivial) (Evt.bind hwhy (Evt.ite_pos (by first | rfl | trivial) hL)))))
  by_cases h : x0.length ≤ 30
  · exact Evt.ite_neg (by omega) (j0f (.inl h))
  · refine Evt.ite_pos (by omega) ?_
    by_cases h2 : x0.length ≤ 1024
    · rw [decide_eq_true (by omega : (x0.length : Int) ≤ 1024)]; exact j0t
    · rw [decide_eq_false (by omega : ¬ (x0.length : Int) ≤ 1024)]; exact j0f (.inr (by omega))
end Go.Proofs.Ytckffheolnmcnaa.Pure

end
