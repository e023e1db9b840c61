/- Part of the proof of RowAttrOwn: what it asks of functions, words and plain facts (put together by this session's own program, wip/tools/shake.py). -/
import Derived.Test.YtnnlbofmlfafhaaZAttrOwn0
import Derived.Test.YtnnlbofmlfafhaaZAttrOwn1
section
namespace Go.Proofs.Ytnnlbofmlfafhaa.P
open Go.RowKit Go.Proofs.YtnnlbofmlfafhaaW.PrintWords Go.Proofs.YtnnlbofmlfafhaaW.PrintLast Go.Proofs.YtnnlbofmlfafhaaW.PrintMore
attribute [local go_sem] max2_int min2_int max_two min_two max_three min_three max_four min_four   -- for this text's walks alone
set_option linter.unusedVariables false
set_option linter.unusedSimpArgs false

def comm_Texts.l0 : Nat → List ByteArray → List (S63) → Int → Int → Option (ByteArray)
  | 0, _, _, _, _ => none
  | k + 1, x3, x9, x10, x11 => if x11 < x10 then (if 0 ≤ x11 then (if x11 < (x9.length : Int) then ((comm_Text.f ((rd_T63 x9 x11).f0) ((rd_T63 x9 x11).f1)).bind fun t153 => (if x3.length < 8796093022208 then (comm_Texts.l0 k (x3 ++ [t153]) x9 x10 (wrap64 (x11 + 1))) else (none))) else (none)) else (none)) else ((strings_Join.f x3 (⟨#[32]⟩ : ByteArray)).bind fun t157 => (some t157))
def comm_Texts.f (k : Nat) (l0 : List (S63)) : Option (ByteArray) := (comm_Set.f k l0).bind fun t150 => (if t150 = true then (comm_Texts.l0 k ([] : List ByteArray) l0 (l0.length : Int) 0) else (some (⟨#[]⟩ : ByteArray)))
theorem comm_Texts.mono_l : ∀ k, (∀ y0 y1 y2 y3, LeO (comm_Texts.l0 k y0 y1 y2 y3) (comm_Texts.l0 (k + 1) y0 y1 y2 y3))
  | 0 => fun _ _ _ _ r h => by simp [comm_Texts.l0] at h
  | k + 1 => by
    have ih0 := comm_Texts.mono_l k
    · intro y0 y1 y2 y3
      unfold comm_Texts.l0
      repeat' first
      | (with_reducible exact ih0 _ _ _ _)
      | (with_reducible exact comm_Set.mono _ _)
      | (with_reducible exact LeO.refl _)
      | (with_reducible exact LeO.none _)
      | (with_reducible refine LeO.ite ?_ ?_)
      | (with_reducible refine LeO.bind ?_ (fun _ => ?_))
      | exact ih0 _ _ _ _
      | exact comm_Set.mono _ _
      | exact LeO.none _
      | refine LeO.ite ?_ ?_
      | refine LeO.bind ?_ (fun _ => ?_)
theorem comm_Texts.mono : ∀ a0 k, LeO (comm_Texts.f k a0) (comm_Texts.f (k + 1) a0) := by
  intro a0 k
  have ih0 := comm_Texts.mono_l k
  unfold comm_Texts.f
  repeat' first
      | (with_reducible exact ih0 _ _ _ _)
      | (with_reducible exact comm_Set.mono _ _)
      | (with_reducible exact LeO.refl _)
      | (with_reducible exact LeO.none _)
      | (with_reducible refine LeO.ite ?_ ?_)
      | (with_reducible refine LeO.bind ?_ (fun _ => ?_))
      | exact ih0 _ _ _ _
      | exact comm_Set.mono _ _
      | exact LeO.none _
      | refine LeO.ite ?_ ?_
      | refine LeO.bind ?_ (fun _ => ?_)
set_option maxHeartbeats 8000000 in
set_option maxRecDepth 100000 in
theorem comm_Texts.calls (k : Nat) (A0 : Option Addr) (c0 : Nat) (l0 : List (S63)) (r : ByteArray) (w : World) (hr0 : Kd.C k63 w A0 l0.length l0) (hc0 : l0.length ≤ c0) (h : comm_Texts.f k l0 = some r) :
  Calls Try.prog 39 #[.slice A0 l0.length c0] w fun e w' => e = .returned (.string r) ∧ Below w.heap.size w w' := by
 have hu63 := Try.underlying63
 have HR0 := Aside0.mk hr0
 have HC0 := Aside0.mk hc0
 clear hr0 hc0
 have HB := Aside0.mk (Below.refl w.heap.size w)
 have H : ((comm_Set.f k l0).bind fun t150 => (if t150 = true then (comm_Texts.l0 k ([] : List ByteArray) l0 (l0.length : Int) 0) else (some (⟨#[]⟩ : ByteArray)))) = some r := h
 clear h
 replace H := Option.bind_eq_some_iff.mp H
 obtain ⟨t150, A20, H⟩ := H
 (try dsimp only at H)
 have A2 := Aside0.mk A20
 clear A20
 by_cases c3 : t150 = true
 ·subst c3
  have H1 : (comm_Texts.l0 k ([] : List ByteArray) l0 (l0.length : Int) 0) = some r := by rw [if_pos rfl] at H; exact H
  clear H
  have H := H1
  clear H1
  have H' := Aside0.mk H
  clear H
  go_enter Try.func39, Try.ntmps39
  go_wp2_with (first | ((with_reducible refine gate_callee (f := 42) rfl ?_); refine goesL_ (some 7) rfl rfl Try.func42 (by kernel_rfl) rfl #[.slice A0 l0.length c0] rfl (by (try simp only [List.map_toArray, List.map_cons, List.map_nil]); first | done | rfl) ?_; (with_reducible refine (comm_Set.calls k _ _ l0 true _ ?side1 ?side2 A2.out).mono ?_); (case side1 => repeat (first | exact HR0.out | (with_reducible refine Kd.C_alloc ?_ _) | (with_reducible refine Kd.C_drewN ?_ _) | (with_reducible refine Kd.C_drew ?_))); (case side2 => exact HC0.out); rintro e w4 ⟨rfl, hb⟩; refine ⟨_, rfl, ?_⟩; replace HB := Aside0.mk (below_step (by repeat (first | (with_reducible first | exact HB.out | apply below_alloc | apply pw_below_drewN | apply below_drew1) | exact HB.out)) hb); (try clear hb); (try clear hb2); (try clear hk); (try clear hi)))
  go_loopg [3, 11] k (fun kq v3 v11 w' => ∃ (x3_1 : List ByteArray) (x11_1 : Int), v11 = .int .i64 x11_1 ∧ Aside0 (comm_Texts.l0 kq x3_1 l0 (l0.length : Int) x11_1 = some r) ∧ Aside0 (kq ≤ k) ∧ Aside0 (Kd.R Kd.string 9 w' w.heap.size (fun _ => True) v3 x3_1) ∧ Aside0 (Below w.heap.size w w'))
  case atStart => exact ⟨(([] : List ByteArray)), (0), (by first | rfl | (simp; done) | (simp [*]; done)), H', ⟨Nat.le_refl _⟩, ⟨by first | exact Kd.R_nil _ _ _ _ _ | exact Kd.N_nil _ _ _ _ _ | exact Kd.V_nil _ _ _ _ _ | exact Kd.Q_nil _ _ _ _ _ | exact Kd.S_nil _ _ _ _ _⟩, ⟨by repeat (first | (with_reducible first | exact HB.out | apply below_alloc | apply pw_below_drewN | apply below_drew1) | exact HB.out)⟩⟩
  case round =>
   clear H'
   try clear p2
   try clear c3
   try clear c4
   obtain ⟨x3_1, x11_1, rfl, HA, HK1, HO_3, HB⟩ := hrel
   cases gk with
   | zero => exact absurd HA.out (by simp [comm_Texts.l0])
   | succ k1 =>
    have H := HA.out
    clear HA
    simp only [comm_Texts.l0] at H
    by_cases c5 : x11_1 < (l0.length : Int)
    ·rw [if_pos c5] at H
     have c5b0 : decide (x11_1 < (l0.length : Int)) = true := decide_eq_true c5
     clear c5
     by_cases c6 : 0 ≤ x11_1
     ·rw [if_pos c6] at H
      have c6b0 : decide (0 ≤ x11_1) = true := decide_eq_true c6
      clear c6
      by_cases c7 : x11_1 < (l0.length : Int)
      ·rw [if_pos c7] at H
       have c7b0 : decide (x11_1 < (l0.length : Int)) = true := decide_eq_true c7
       clear c7
       replace H := Option.bind_eq_some_iff.mp H
       obtain ⟨t153, A80, H⟩ := H
       (try dsimp only at H)
       have A8 := Aside0.mk A80
       clear A80
       by_cases c9 : x3_1.length < 8796093022208
       ·rw [if_pos c9] at H
        have LMc9 := Aside0.mk c9
        clear c9
        obtain ⟨y154, hy154⟩ : ∃ y_ : List ByteArray, y_ = (x3_1 ++ [t153]) := ⟨_, rfl⟩
        replace H : (comm_Texts.l0 k1 y154 l0 (l0.length : Int) (wrap64 (x11_1 + 1))) = some r := by first | (rw [hy154]; with_reducible exact H) | (have H2_ := (Option.bind_some _ _).symm.trans H; rw [hy154]; with_reducible exact H2_) | (have H2_ := (Option.bind_some _ _).symm.trans H; with_reducible exact H2_) | with_reducible exact H | (rw [hy154]; exact H) | exact H
        have Ny154 := Aside0.mk hy154
        clear hy154
        have H' := Aside0.mk H
        clear H
        have p151 : 0 ≤ (x11_1 : Int) := of_decide_eq_true (by first | (with_reducible assumption) | assumption)
        have q151 : x11_1 < (l0.length : Int) := of_decide_eq_true (by first | (with_reducible assumption) | assumption)
        obtain ⟨ad151, e151, hx151_0, hx151_1⟩ := at_T63 HR0.out x11_1 p151 q151
        cases e151
        replace hx151_0 := (HB.out.cell (World.block_lt_of_cell? w _ hx151_0)).trans hx151_0
        replace hx151_1 := (HB.out.cell (World.block_lt_of_cell? w _ hx151_1)).trans hx151_1
        replace p151 := eq_true p151
        replace q151 := eq_true q151
        go_wp2_with (first | ((with_reducible refine gate_dst (N := 5) rfl ?_); refine box_event ?hg (N := 5) ?hd (cs := #[.int .i64 0, .int .i64 0]) (t := 63) ?hr ?_; (case hd => rfl); (case hg => rfl); (case hr => first | (go_simp; done) | (go_simp; rfl)); intro ab hg w10 hbox hb; have n0_ := Aside0.mk (Kd.R_below (by (with_reducible repeat (first | apply Kd.R_alloc | apply Kd.R_drewN | apply Kd.R_drew)); exact HO_3.out) hb); have n1_ := Aside0.mk (below_step (by repeat (first | (with_reducible first | exact HB.out | apply below_alloc | apply pw_below_drewN | apply below_drew1) | exact HB.out)) hb); have n2_ := Aside0.mk (hbox); have n3_ := Aside0.mk ((by rw [hg]; exact (below_size (by repeat (first | (with_reducible first | exact HB.out | apply below_alloc | apply pw_below_drewN | apply below_drew1) | exact HB.out))) : w.heap.size ≤ ab)); have n4_ := Aside0.mk ((by rw [hg]; exact (below_size (by repeat (first | (with_reducible first | exact HB.out | apply below_alloc | apply pw_below_drewN | apply below_drew1) | exact HB.out))) : w.heap.size ≤ ab)); clear HO_3; clear HB; have HO_3 := n0_; have HB := n1_; have aa := n2_; have GW152 := n3_; have GE152 := n4_; clear n0_ n1_ n2_ n3_ n4_; clear hb hbox hg; have hcz11_0 : w10.cell? ⟨ab, 0, none⟩ = some (.int .i64 0) := (blk_cell aa.out 0).trans rfl; have hcz11_1 : w10.cell? ⟨ab, 1, none⟩ = some (.int .i64 0) := (blk_cell aa.out 1).trans rfl; have hfz11_0 := blk_frozen aa.out 0; have hfz11_1 := blk_frozen aa.out 1) | ((with_reducible refine gate_callee (f := 66) rfl ?_); refine goesL_ (some 17) rfl rfl Try.func66 (by kernel_rfl) rfl #[.agg #[.int .i64 ((rd_T63 l0 x11_1).f0), .int .i64 ((rd_T63 l0 x11_1).f1)]] rfl (by (try simp only [List.map_toArray, List.map_cons, List.map_nil]); first | done | rfl) ?_; (with_reducible refine (comm_Text.calls ((rd_T63 l0 x11_1).f0) ((rd_T63 l0 x11_1).f1) t153 _ A8.out).mono ?_); rintro e w12 ⟨rfl, hb⟩; refine ⟨_, rfl, ?_⟩; replace HO_3 := Aside0.mk (Kd.R_below (by (with_reducible repeat (first | apply Kd.R_alloc | apply Kd.R_drewN | apply Kd.R_drew)); exact (Kd.R_mono (Kd.R_far (p := ⟨ab, 1, none⟩) (Kd.R_far (p := ⟨ab, 0, none⟩) (Kd.R_types HO_3.out aa.out (by decide)) (fun _ hk => hk.2) (.int .i64 ((rd_T63 l0 x11_1).f0))) (fun _ hk => hk.2) (.int .i64 ((rd_T63 l0 x11_1).f1))) (fun _ h_ => h_.1))) hb); replace aa := Aside0.mk (blk_below (g := ab) (o := .cells #[.int .i64 ((rd_T63 l0 x11_1).f0), .int .i64 ((rd_T63 l0 x11_1).f1)] 63 (0, 0)) (by (with_reducible repeat (first | refine blk_drewN ?_ _ | refine blk_drew ?_ | refine blk_alloc ?_ _)); refine blk_put (cs := #[.int .i64 ((rd_T63 l0 x11_1).f0), .int .i64 0]) ?_ 1 _ rfl; (with_reducible repeat (first | refine blk_drewN ?_ _ | refine blk_drew ?_ | refine blk_alloc ?_ _)); refine blk_put (cs := #[.int .i64 0, .int .i64 0]) ?_ 0 _ rfl; (with_reducible repeat (first | refine blk_drewN ?_ _ | refine blk_drew ?_ | refine blk_alloc ?_ _)); exact aa.out) hb); replace HB := Aside0.mk (below_step (by repeat (first | (with_reducible first | exact HB.out | apply below_alloc | apply pw_below_drewN | apply below_drew1 | refine below_set ?_ GE152.out) | exact HB.out)) hb); (try clear hb); (try clear hb2); (try clear hk); (try clear hi)) | ((with_reducible refine gate_builtin (b := .append) (xs := #[.tmp 15, .tmp 18]) rfl ?_); at_builtin; refine Kd.R_append Kd.string (w0 := w) w.heap.size rfl (.tmp 15) (.tmp 18) 52 9 (.string ⟨#[]⟩) 16 rfl Try.underlying52 info9 rfl (by decide) (by omega) u3 x3_1 t153 [.string t153] (fun _ => True) (fun _ => False) rfl rfl ?aP (fun _ hk => hk.elim) ?aF ?aO ?aB ?aS ?aL ?_; (case aP => exact rfl); (case aB => exact (by repeat (first | (with_reducible first | exact HB.out | apply below_alloc | apply pw_below_drewN | apply below_drew1 | refine below_set ?_ GE152.out) | exact HB.out))); (case aF => exact (fun _ _ => trivial)); (case aO => exact (by (with_reducible repeat (first | apply Kd.R_alloc | apply Kd.R_drewN | apply Kd.R_drew)); exact HO_3.out)); (case aS => exact (below_size (by repeat (first | (with_reducible first | exact HB.out | apply below_alloc | apply pw_below_drewN | apply below_drew1 | refine below_set ?_ GE152.out) | exact HB.out)))); (case aL => have := LMc9.out; omega); intro v155 w13 ho hb hg hat; rw [← Ny154.out] at ho; replace aa := Aside0.mk (blk_grown (g := ab) (o := .cells #[.int .i64 ((rd_T63 l0 x11_1).f0), .int .i64 ((rd_T63 l0 x11_1).f1)] 63 (0, 0)) (by (with_reducible repeat (first | refine blk_drewN ?_ _ | refine blk_drew ?_ | refine blk_alloc ?_ _)); exact aa.out) hg (Kd.R_ne HO_3.out aa.out (by decide))); replace HB := Aside0.mk (hb); have HO156 := Aside0.mk (ho); clear HO_3; clear ho hb hg hat))
        go_roundg k1
        case measure => have := HK1.out; omega
        case rel => exact ⟨(y154), (wrap64 (x11_1 + 1)), (by first | rfl | (simp; done) | (simp [*]; done)), H', ⟨by have := HK1.out; omega⟩, ⟨by (with_reducible repeat (first | apply Kd.R_alloc | apply Kd.R_drewN | apply Kd.R_drew)); exact HO156.out⟩, ⟨by repeat (first | (with_reducible first | exact HB.out | apply below_alloc | apply pw_below_drewN | apply below_drew1 | refine below_set ?_ GE152.out) | exact HB.out)⟩⟩
       ·rw [if_neg c9] at H
        exact absurd H (by simp)
      ·rw [if_neg c7] at H
       exact absurd H (by simp)
     ·rw [if_neg c6] at H
      exact absurd H (by simp)
    ·rw [if_neg c5] at H
     have c5b0 : decide (x11_1 < (l0.length : Int)) = false := decide_eq_false c5
     clear c5
     replace H := Option.bind_eq_some_iff.mp H
     obtain ⟨t157, A140, H⟩ := H
     replace H : (some t157) = some r := H
     have A14 := Aside0.mk A140
     clear A140
     obtain rfl := Option.some.inj H
     obtain ⟨Ao15, co15, eo15⟩ := Kd.R_slice HO_3.out
     subst eo15
     go_wp2_with (first | ((with_reducible refine gate_callee (f := 40) rfl ?_); refine goesL_ (some 22) rfl rfl Try.func40 (by kernel_rfl) rfl #[.slice Ao15 x3_1.length co15, .string (⟨#[32]⟩ : ByteArray)] rfl (by (try simp only [List.map_toArray, List.map_cons, List.map_nil]); first | done | rfl) ?_; (with_reducible refine (strings_Join.calls _ _ x3_1 (⟨#[32]⟩ : ByteArray) t157 _ ?side1 ?side2 A14.out).mono ?_); (case side1 => repeat (first | exact (Kd.R_reads' HO_3.out).2.2 | (with_reducible refine Kd.C_alloc ?_ _) | (with_reducible refine Kd.C_drewN ?_ _) | (with_reducible refine Kd.C_drew ?_))); (case side2 => exact (Kd.R_reads' HO_3.out).2.1); rintro e w16 ⟨rfl, hb⟩; refine ⟨_, rfl, ?_⟩; replace HO_3 := Aside0.mk (Kd.R_below (by (with_reducible repeat (first | apply Kd.R_alloc | apply Kd.R_drewN | apply Kd.R_drew)); exact HO_3.out) hb); replace HB := Aside0.mk (below_step (by repeat (first | (with_reducible first | exact HB.out | apply below_alloc | apply pw_below_drewN | apply below_drew1) | exact HB.out)) hb); (try clear hb); (try clear hb2); (try clear hk); (try clear hi)))
     go_ret
     exact ⟨by first | rfl | (simp [errW_none, errW_some] <;> rfl) | (simp [*, errW_none, errW_some] <;> rfl), by repeat (first | (with_reducible first | exact HB.out | apply below_alloc | apply pw_below_drewN | apply below_drew1) | exact HB.out)⟩
 ·replace c3 := Bool.eq_false_iff.mpr c3
  subst c3
  have H1 : (some (⟨#[]⟩ : ByteArray)) = some r := by rw [if_neg (show ¬ (false = true) by decide)] at H; exact H
  clear H
  have H := H1
  clear H1
  obtain rfl := Option.some.inj H
  go_enter Try.func39, Try.ntmps39
  go_wp2_with (first | ((with_reducible refine gate_callee (f := 42) rfl ?_); refine goesL_ (some 7) rfl rfl Try.func42 (by kernel_rfl) rfl #[.slice A0 l0.length c0] rfl (by (try simp only [List.map_toArray, List.map_cons, List.map_nil]); first | done | rfl) ?_; (with_reducible refine (comm_Set.calls k _ _ l0 false _ ?side1 ?side2 A2.out).mono ?_); (case side1 => repeat (first | exact HR0.out | (with_reducible refine Kd.C_alloc ?_ _) | (with_reducible refine Kd.C_drewN ?_ _) | (with_reducible refine Kd.C_drew ?_))); (case side2 => exact HC0.out); rintro e w17 ⟨rfl, hb⟩; refine ⟨_, rfl, ?_⟩; replace HB := Aside0.mk (below_step (by repeat (first | (with_reducible first | exact HB.out | apply below_alloc | apply pw_below_drewN | apply below_drew1) | exact HB.out)) hb); (try clear hb); (try clear hb2); (try clear hk); (try clear hi)))
  go_ret
  exact ⟨by first | rfl | (simp [errW_none, errW_some] <;> rfl) | (simp [*, errW_none, errW_some] <;> rfl), by repeat (first | (with_reducible first | exact HB.out | apply below_alloc | apply pw_below_drewN | apply below_drew1) | exact HB.out)⟩

end Go.Proofs.Ytnnlbofmlfafhaa.P

end
section
namespace Go.Proofs.Ytnnlbofmlfafhaa.P
open Go.RowKit Go.Proofs.YtnnlbofmlfafhaaW.PrintWords Go.Proofs.YtnnlbofmlfafhaaW.PrintLast Go.Proofs.YtnnlbofmlfafhaaW.PrintMore
attribute [local go_sem] max2_int min2_int max_two min_two max_three min_three max_four min_four   -- for this text's walks alone
set_option linter.unusedVariables false
set_option linter.unusedSimpArgs false

mutual
def attr_Text.j0 : Nat → ByteArray → Int → Int → Int → List Int → List (S63) → Int → List Int → Option (ByteArray)
  | 0, _, _, _, _, _, _, _, _ => none
  | k + 1, x3, x159000, x159001, x159002, x159003, x159004, x159005, x159006 => if (x159006.length : Int) > 0 then (attr_Text.l0 k x3 ([] : List ByteArray) x159006 (x159006.length : Int) 0) else (some x3)
def attr_Text.l0 : Nat → ByteArray → List ByteArray → List Int → Int → Int → Option (ByteArray)
  | 0, _, _, _, _, _ => none
  | k + 1, x3, x4, x51, x52, x53 => if x53 < x52 then (if 0 ≤ x53 then (if x53 < (x51.length : Int) then ((attr_digits.f (rd x51 x53)).bind fun t170 => (if x4.length < 8796093022208 then (attr_Text.l0 k x3 (x4 ++ [t170]) x51 x52 (wrap64 (x53 + 1))) else (none))) else (none)) else (none)) else ((strings_Join.f x4 (⟨#[32]⟩ : ByteArray)).bind fun t174 => (if 11 + t174.size ≤ 9223372036854775807 then (if ((⟨#[32, 99, 108, 117, 115, 116, 101, 114, 115, 32, 91]⟩ : ByteArray) ++ t174).size + 1 ≤ 9223372036854775807 then (if x3.size + (((⟨#[32, 99, 108, 117, 115, 116, 101, 114, 115, 32, 91]⟩ : ByteArray) ++ t174) ++ (⟨#[93]⟩ : ByteArray)).size ≤ 9223372036854775807 then (some (x3 ++ (((⟨#[32, 99, 108, 117, 115, 116, 101, 114, 115, 32, 91]⟩ : ByteArray) ++ t174) ++ (⟨#[93]⟩ : ByteArray)))) else (none)) else (none)) else (none)))
end
def attr_Text.f (k : Nat) (a0_0 : Int) (a0_1 : Int) (a0_2 : Int) (l0_3 : List Int) (l0_4 : List (S63)) (a0_5 : Int) (l0_6 : List Int) : Option (ByteArray) := (attr_May.f k a0_0 a0_1 a0_2 l0_3 l0_4 a0_5 l0_6).bind fun t159 => (if t159 = true then ((attr_digits.f a0_0).bind fun t160 => (if 5 + t160.size ≤ 9223372036854775807 then (if ((⟨#[112, 114, 101, 102, 32]⟩ : ByteArray) ++ t160).size + 5 ≤ 9223372036854775807 then ((attr_digits.f a0_1).bind fun t161 => (if (((⟨#[112, 114, 101, 102, 32]⟩ : ByteArray) ++ t160) ++ (⟨#[32, 109, 101, 100, 32]⟩ : ByteArray)).size + t161.size ≤ 9223372036854775807 then (if ((((⟨#[112, 114, 101, 102, 32]⟩ : ByteArray) ++ t160) ++ (⟨#[32, 109, 101, 100, 32]⟩ : ByteArray)) ++ t161).size + 8 ≤ 9223372036854775807 then ((some (([(⟨#[105, 103, 112]⟩ : ByteArray), (⟨#[101, 103, 112]⟩ : ByteArray), (⟨#[110, 111, 110, 101]⟩ : ByteArray)] : List ByteArray) : List ByteArray)).bind fun y162 => (if 0 ≤ a0_2 then (if a0_2 < (y162.length : Int) then (if (((((⟨#[112, 114, 101, 102, 32]⟩ : ByteArray) ++ t160) ++ (⟨#[32, 109, 101, 100, 32]⟩ : ByteArray)) ++ t161) ++ (⟨#[32, 111, 114, 105, 103, 105, 110, 32]⟩ : ByteArray)).size + (rdOf ByteArray.empty y162 a0_2).size ≤ 9223372036854775807 then (if ((((((⟨#[112, 114, 101, 102, 32]⟩ : ByteArray) ++ t160) ++ (⟨#[32, 109, 101, 100, 32]⟩ : ByteArray)) ++ t161) ++ (⟨#[32, 111, 114, 105, 103, 105, 110, 32]⟩ : ByteArray)) ++ (rdOf ByteArray.empty y162 a0_2)).size + 7 ≤ 9223372036854775807 then ((aspath_Text.f k l0_3).bind fun t166 => (if (((((((⟨#[112, 114, 101, 102, 32]⟩ : ByteArray) ++ t160) ++ (⟨#[32, 109, 101, 100, 32]⟩ : ByteArray)) ++ t161) ++ (⟨#[32, 111, 114, 105, 103, 105, 110, 32]⟩ : ByteArray)) ++ (rdOf ByteArray.empty y162 a0_2)) ++ (⟨#[32, 112, 97, 116, 104, 32, 91]⟩ : ByteArray)).size + t166.size ≤ 9223372036854775807 then (if ((((((((⟨#[112, 114, 101, 102, 32]⟩ : ByteArray) ++ t160) ++ (⟨#[32, 109, 101, 100, 32]⟩ : ByteArray)) ++ t161) ++ (⟨#[32, 111, 114, 105, 103, 105, 110, 32]⟩ : ByteArray)) ++ (rdOf ByteArray.empty y162 a0_2)) ++ (⟨#[32, 112, 97, 116, 104, 32, 91]⟩ : ByteArray)) ++ t166).size + 9 ≤ 9223372036854775807 then ((comm_Texts.f k l0_4).bind fun t167 => (if (((((((((⟨#[112, 114, 101, 102, 32]⟩ : ByteArray) ++ t160) ++ (⟨#[32, 109, 101, 100, 32]⟩ : ByteArray)) ++ t161) ++ (⟨#[32, 111, 114, 105, 103, 105, 110, 32]⟩ : ByteArray)) ++ (rdOf ByteArray.empty y162 a0_2)) ++ (⟨#[32, 112, 97, 116, 104, 32, 91]⟩ : ByteArray)) ++ t166) ++ (⟨#[93, 32, 99, 111, 109, 109, 115, 32, 91]⟩ : ByteArray)).size + t167.size ≤ 9223372036854775807 then (if ((((((((((⟨#[112, 114, 101, 102, 32]⟩ : ByteArray) ++ t160) ++ (⟨#[32, 109, 101, 100, 32]⟩ : ByteArray)) ++ t161) ++ (⟨#[32, 111, 114, 105, 103, 105, 110, 32]⟩ : ByteArray)) ++ (rdOf ByteArray.empty y162 a0_2)) ++ (⟨#[32, 112, 97, 116, 104, 32, 91]⟩ : ByteArray)) ++ t166) ++ (⟨#[93, 32, 99, 111, 109, 109, 115, 32, 91]⟩ : ByteArray)) ++ t167).size + 1 ≤ 9223372036854775807 then (if a0_5 > 0 then ((attr_digits.f a0_5).bind fun t168 => (if 6 + t168.size ≤ 9223372036854775807 then (if (((((((((((⟨#[112, 114, 101, 102, 32]⟩ : ByteArray) ++ t160) ++ (⟨#[32, 109, 101, 100, 32]⟩ : ByteArray)) ++ t161) ++ (⟨#[32, 111, 114, 105, 103, 105, 110, 32]⟩ : ByteArray)) ++ (rdOf ByteArray.empty y162 a0_2)) ++ (⟨#[32, 112, 97, 116, 104, 32, 91]⟩ : ByteArray)) ++ t166) ++ (⟨#[93, 32, 99, 111, 109, 109, 115, 32, 91]⟩ : ByteArray)) ++ t167) ++ (⟨#[93]⟩ : ByteArray)).size + ((⟨#[32, 102, 114, 111, 109, 32]⟩ : ByteArray) ++ t168).size ≤ 9223372036854775807 then (attr_Text.j0 k ((((((((((((⟨#[112, 114, 101, 102, 32]⟩ : ByteArray) ++ t160) ++ (⟨#[32, 109, 101, 100, 32]⟩ : ByteArray)) ++ t161) ++ (⟨#[32, 111, 114, 105, 103, 105, 110, 32]⟩ : ByteArray)) ++ (rdOf ByteArray.empty y162 a0_2)) ++ (⟨#[32, 112, 97, 116, 104, 32, 91]⟩ : ByteArray)) ++ t166) ++ (⟨#[93, 32, 99, 111, 109, 109, 115, 32, 91]⟩ : ByteArray)) ++ t167) ++ (⟨#[93]⟩ : ByteArray)) ++ ((⟨#[32, 102, 114, 111, 109, 32]⟩ : ByteArray) ++ t168)) a0_0 a0_1 a0_2 l0_3 l0_4 a0_5 l0_6) else (none)) else (none))) else (attr_Text.j0 k (((((((((((⟨#[112, 114, 101, 102, 32]⟩ : ByteArray) ++ t160) ++ (⟨#[32, 109, 101, 100, 32]⟩ : ByteArray)) ++ t161) ++ (⟨#[32, 111, 114, 105, 103, 105, 110, 32]⟩ : ByteArray)) ++ (rdOf ByteArray.empty y162 a0_2)) ++ (⟨#[32, 112, 97, 116, 104, 32, 91]⟩ : ByteArray)) ++ t166) ++ (⟨#[93, 32, 99, 111, 109, 109, 115, 32, 91]⟩ : ByteArray)) ++ t167) ++ (⟨#[93]⟩ : ByteArray)) a0_0 a0_1 a0_2 l0_3 l0_4 a0_5 l0_6)) else (none)) else (none))) else (none)) else (none))) else (none)) else (none)) else (none)) else (none))) else (none)) else (none))) else (none)) else (none))) else (some (⟨#[]⟩ : ByteArray)))
theorem attr_Text.mono_l : ∀ k, (∀ y0 y1 y2 y3 y4 y5 y6 y7, LeO (attr_Text.j0 k y0 y1 y2 y3 y4 y5 y6 y7) (attr_Text.j0 (k + 1) y0 y1 y2 y3 y4 y5 y6 y7)) ∧ (∀ y0 y1 y2 y3 y4, LeO (attr_Text.l0 k y0 y1 y2 y3 y4) (attr_Text.l0 (k + 1) y0 y1 y2 y3 y4))
  | 0 => ⟨fun _ _ _ _ _ _ _ _ r h => by simp [attr_Text.j0] at h, fun _ _ _ _ _ r h => by simp [attr_Text.l0] at h⟩
  | k + 1 => by
    obtain ⟨ih0, ih1⟩ := attr_Text.mono_l k
    refine ⟨?_, ?_⟩
    · intro y0 y1 y2 y3 y4 y5 y6 y7
      unfold attr_Text.j0
      repeat' first
      | (with_reducible exact ih0 _ _ _ _ _ _ _ _)
      | (with_reducible exact ih1 _ _ _ _ _)
      | (with_reducible exact aspath_Text.mono _ _)
      | (with_reducible exact attr_May.mono _ _ _ _ _ _ _ _)
      | (with_reducible exact comm_Texts.mono _ _)
      | (with_reducible exact LeO.refl _)
      | (with_reducible exact LeO.none _)
      | (with_reducible refine LeO.ite ?_ ?_)
      | (with_reducible refine LeO.bind ?_ (fun _ => ?_))
      | exact ih0 _ _ _ _ _ _ _ _
      | exact ih1 _ _ _ _ _
      | exact aspath_Text.mono _ _
      | exact attr_May.mono _ _ _ _ _ _ _ _
      | exact comm_Texts.mono _ _
      | exact LeO.none _
      | refine LeO.ite ?_ ?_
      | refine LeO.bind ?_ (fun _ => ?_)
    · intro y0 y1 y2 y3 y4
      unfold attr_Text.l0
      repeat' first
      | (with_reducible exact ih0 _ _ _ _ _ _ _ _)
      | (with_reducible exact ih1 _ _ _ _ _)
      | (with_reducible exact aspath_Text.mono _ _)
      | (with_reducible exact attr_May.mono _ _ _ _ _ _ _ _)
      | (with_reducible exact comm_Texts.mono _ _)
      | (with_reducible exact LeO.refl _)
      | (with_reducible exact LeO.none _)
      | (with_reducible refine LeO.ite ?_ ?_)
      | (with_reducible refine LeO.bind ?_ (fun _ => ?_))
      | exact ih0 _ _ _ _ _ _ _ _
      | exact ih1 _ _ _ _ _
      | exact aspath_Text.mono _ _
      | exact attr_May.mono _ _ _ _ _ _ _ _
      | exact comm_Texts.mono _ _
      | exact LeO.none _
      | refine LeO.ite ?_ ?_
      | refine LeO.bind ?_ (fun _ => ?_)
theorem attr_Text.mono : ∀ a0 a1 a2 a3 a4 a5 a6 k, LeO (attr_Text.f k a0 a1 a2 a3 a4 a5 a6) (attr_Text.f (k + 1) a0 a1 a2 a3 a4 a5 a6) := by
  intro a0 a1 a2 a3 a4 a5 a6 k
  obtain ⟨ih0, ih1⟩ := attr_Text.mono_l k
  unfold attr_Text.f
  repeat' first
      | (with_reducible exact ih0 _ _ _ _ _ _ _ _)
      | (with_reducible exact ih1 _ _ _ _ _)
      | (with_reducible exact aspath_Text.mono _ _)
      | (with_reducible exact attr_May.mono _ _ _ _ _ _ _ _)
      | (with_reducible exact comm_Texts.mono _ _)
      | (with_reducible exact LeO.refl _)
      | (with_reducible exact LeO.none _)
      | (with_reducible refine LeO.ite ?_ ?_)
      | (with_reducible refine LeO.bind ?_ (fun _ => ?_))
      | exact ih0 _ _ _ _ _ _ _ _
      | exact ih1 _ _ _ _ _
      | exact aspath_Text.mono _ _
      | exact attr_May.mono _ _ _ _ _ _ _ _
      | exact comm_Texts.mono _ _
      | exact LeO.none _
      | refine LeO.ite ?_ ?_
      | refine LeO.bind ?_ (fun _ => ?_)
def attr_Text.T3 : Bool × List (List Nat × List Nat) := (true, [([], []), ([0], [0]), ([1], [1]), ([2], [2]), ([3], [3]), ([], []), ([5], [5]), ([6, 2], [6]), ([4, 7], [4, 7]), ([8], [8]), ([], []), ([], []), ([11], [11]), ([10, 12], [10, 12]), ([13], [13]), ([9, 14], [9, 14]), ([15], [15]), ([], []), ([17], [17]), ([18, 7], [18]), ([16, 19], [16, 19]), ([20], [20]), ([], []), ([22], [22]), ([23, 19], [23]), ([21, 24], [21, 24]), ([25], [25]), ([26, 24, 0, 1, 2, 3, 4, 5, 6, 7, 8, 9, 10, 11, 12, 13, 14, 15, 16, 17, 18, 19, 20, 21, 22, 23, 24, 25, 26], [26])])
def attr_Text.B3 : List Nat := [0, 1, 3, 7, 15, 0, 32, 103, 255, 511, 0, 0, 2048, 7168, 15360, 32767, 65535, 0, 131072, 393447, 1048575, 2097151, 0, 4194304, 13500647, 33554431, 67108863, 134217727]
theorem attr_Text.tab3 : rtab .any (opsOf Try.f14 3) = attr_Text.T3 := by kernel_rfl
theorem attr_Text.bits3 : waitsOk attr_Text.T3.2 attr_Text.B3 = true := by kernel_rfl
set_option maxHeartbeats 8000000 in
set_option maxRecDepth 100000 in
theorem attr_Text.calls (k : Nat) (aj : Int) (ak : Int) (ac : Int) (al : Option Addr) (am : Nat) (ag : List Int) (an : Option Addr) (ao : Nat) (ah : List (S63)) (ai : Int) (ar : Option Addr) (aq : Nat) (ae : List Int) (r : ByteArray) (w : World) (hr0_3 : Kd.C (Kd.int .i64) w al ag.length ag) (hc0_3 : ag.length ≤ am) (hr0_4 : Kd.C k63 w an ah.length ah) (hc0_4 : ah.length ≤ ao) (hr0_6 : Kd.C (Kd.int .i64) w ar ae.length ae) (hc0_6 : ae.length ≤ aq) (h : attr_Text.f k aj ak ac ag ah ai ae = some r) :
  Calls Try.prog 14 #[.agg #[.int .i64 aj, .int .i64 ak, .int .i64 ac, .slice al ag.length am, .slice an ah.length ao, .int .i64 ai, .slice ar ae.length aq]] w fun e w' => e = .returned (.string r) ∧ Below w.heap.size w w' := by
 have hu30 := Try.underlying30
 have HR0_3 := Aside0.mk hr0_3
 have HC0_3 := Aside0.mk hc0_3
 clear hr0_3 hc0_3
 have HR0_4 := Aside0.mk hr0_4
 have HC0_4 := Aside0.mk hc0_4
 clear hr0_4 hc0_4
 have HR0_6 := Aside0.mk hr0_6
 have HC0_6 := Aside0.mk hc0_6
 clear hr0_6 hc0_6
 have HB := Aside0.mk (Below.refl w.heap.size w)
 have H := h
 unfold attr_Text.f at H
 clear h
 replace H := Option.bind_eq_some_iff.mp H
 obtain ⟨t159, A20, H⟩ := H
 (try dsimp only at H)
 have A2 := Aside0.mk A20
 clear A20
 by_cases c3 : t159 = true
 ·subst c3
  have H1 := H
  rw [if_pos rfl] at H1
  clear H
  have H := H1
  clear H1
  replace H := Option.bind_eq_some_iff.mp H
  obtain ⟨t160, A40, H⟩ := H
  (try dsimp only at H)
  have A4 := Aside0.mk A40
  clear A40
  by_cases c5 : 5 + t160.size ≤ 9223372036854775807
  ·rw [if_pos c5] at H
   have c5b0 := eq_true c5
   have c5b1 : decide (5 + t160.size ≤ 9223372036854775807) = true := decide_eq_true c5
   try have c5b2 : (9223372036854775807 < 5 + t160.size) = False := eq_false (Nat.not_lt.2 c5)
   by_cases c6 : ((⟨#[112, 114, 101, 102, 32]⟩ : ByteArray) ++ t160).size + 5 ≤ 9223372036854775807
   ·rw [if_pos c6] at H
    have c6b0 := eq_true c6
    have c6b1 : decide (((⟨#[112, 114, 101, 102, 32]⟩ : ByteArray) ++ t160).size + 5 ≤ 9223372036854775807) = true := decide_eq_true c6
    try have c6b2 : (9223372036854775807 < ((⟨#[112, 114, 101, 102, 32]⟩ : ByteArray) ++ t160).size + 5) = False := eq_false (Nat.not_lt.2 c6)
    try have c6b3 : (9223372036854775807 < 5 + t160.size + 5) = False := eq_false (Nat.not_lt.2 (by have h_ := c6; simp only [ByteArray.size_append] at h_; exact h_))
    replace H := Option.bind_eq_some_iff.mp H
    obtain ⟨t161, A70, H⟩ := H
    (try dsimp only at H)
    have A7 := Aside0.mk A70
    clear A70
    by_cases c8 : (((⟨#[112, 114, 101, 102, 32]⟩ : ByteArray) ++ t160) ++ (⟨#[32, 109, 101, 100, 32]⟩ : ByteArray)).size + t161.size ≤ 9223372036854775807
    ·rw [if_pos c8] at H
     have c8b0 := eq_true c8
     have c8b1 : decide ((((⟨#[112, 114, 101, 102, 32]⟩ : ByteArray) ++ t160) ++ (⟨#[32, 109, 101, 100, 32]⟩ : ByteArray)).size + t161.size ≤ 9223372036854775807) = true := decide_eq_true c8
     try have c8b2 : (9223372036854775807 < (((⟨#[112, 114, 101, 102, 32]⟩ : ByteArray) ++ t160) ++ (⟨#[32, 109, 101, 100, 32]⟩ : ByteArray)).size + t161.size) = False := eq_false (Nat.not_lt.2 c8)
     try have c8b3 : (9223372036854775807 < 5 + t160.size + 5 + t161.size) = False := eq_false (Nat.not_lt.2 (by have h_ := c8; simp only [ByteArray.size_append] at h_; exact h_))
     by_cases c9 : ((((⟨#[112, 114, 101, 102, 32]⟩ : ByteArray) ++ t160) ++ (⟨#[32, 109, 101, 100, 32]⟩ : ByteArray)) ++ t161).size + 8 ≤ 9223372036854775807
     ·rw [if_pos c9] at H
      have c9b0 := eq_true c9
      have c9b1 : decide (((((⟨#[112, 114, 101, 102, 32]⟩ : ByteArray) ++ t160) ++ (⟨#[32, 109, 101, 100, 32]⟩ : ByteArray)) ++ t161).size + 8 ≤ 9223372036854775807) = true := decide_eq_true c9
      try have c9b2 : (9223372036854775807 < ((((⟨#[112, 114, 101, 102, 32]⟩ : ByteArray) ++ t160) ++ (⟨#[32, 109, 101, 100, 32]⟩ : ByteArray)) ++ t161).size + 8) = False := eq_false (Nat.not_lt.2 c9)
      try have c9b3 : (9223372036854775807 < 5 + t160.size + 5 + t161.size + 8) = False := eq_false (Nat.not_lt.2 (by have h_ := c9; simp only [ByteArray.size_append] at h_; exact h_))
      obtain ⟨ad, hy162⟩ : ∃ y_ : List ByteArray, y_ = (([(⟨#[105, 103, 112]⟩ : ByteArray), (⟨#[101, 103, 112]⟩ : ByteArray), (⟨#[110, 111, 110, 101]⟩ : ByteArray)] : List ByteArray)) := ⟨_, rfl⟩
      replace H : (if 0 ≤ ac then (if ac < (ad.length : Int) then (if (((((⟨#[112, 114, 101, 102, 32]⟩ : ByteArray) ++ t160) ++ (⟨#[32, 109, 101, 100, 32]⟩ : ByteArray)) ++ t161) ++ (⟨#[32, 111, 114, 105, 103, 105, 110, 32]⟩ : ByteArray)).size + (rdOf ByteArray.empty ad ac).size ≤ 9223372036854775807 then (if ((((((⟨#[112, 114, 101, 102, 32]⟩ : ByteArray) ++ t160) ++ (⟨#[32, 109, 101, 100, 32]⟩ : ByteArray)) ++ t161) ++ (⟨#[32, 111, 114, 105, 103, 105, 110, 32]⟩ : ByteArray)) ++ (rdOf ByteArray.empty ad ac)).size + 7 ≤ 9223372036854775807 then ((aspath_Text.f k ag).bind fun t166 => (if (((((((⟨#[112, 114, 101, 102, 32]⟩ : ByteArray) ++ t160) ++ (⟨#[32, 109, 101, 100, 32]⟩ : ByteArray)) ++ t161) ++ (⟨#[32, 111, 114, 105, 103, 105, 110, 32]⟩ : ByteArray)) ++ (rdOf ByteArray.empty ad ac)) ++ (⟨#[32, 112, 97, 116, 104, 32, 91]⟩ : ByteArray)).size + t166.size ≤ 9223372036854775807 then (if ((((((((⟨#[112, 114, 101, 102, 32]⟩ : ByteArray) ++ t160) ++ (⟨#[32, 109, 101, 100, 32]⟩ : ByteArray)) ++ t161) ++ (⟨#[32, 111, 114, 105, 103, 105, 110, 32]⟩ : ByteArray)) ++ (rdOf ByteArray.empty ad ac)) ++ (⟨#[32, 112, 97, 116, 104, 32, 91]⟩ : ByteArray)) ++ t166).size + 9 ≤ 9223372036854775807 then ((comm_Texts.f k ah).bind fun t167 => (if (((((((((⟨#[112, 114, 101, 102, 32]⟩ : ByteArray) ++ t160) ++ (⟨#[32, 109, 101, 100, 32]⟩ : ByteArray)) ++ t161) ++ (⟨#[32, 111, 114, 105, 103, 105, 110, 32]⟩ : ByteArray)) ++ (rdOf ByteArray.empty ad ac)) ++ (⟨#[32, 112, 97, 116, 104, 32, 91]⟩ : ByteArray)) ++ t166) ++ (⟨#[93, 32, 99, 111, 109, 109, 115, 32, 91]⟩ : ByteArray)).size + t167.size ≤ 9223372036854775807 then (if ((((((((((⟨#[112, 114, 101, 102, 32]⟩ : ByteArray) ++ t160) ++ (⟨#[32, 109, 101, 100, 32]⟩ : ByteArray)) ++ t161) ++ (⟨#[32, 111, 114, 105, 103, 105, 110, 32]⟩ : ByteArray)) ++ (rdOf ByteArray.empty ad ac)) ++ (⟨#[32, 112, 97, 116, 104, 32, 91]⟩ : ByteArray)) ++ t166) ++ (⟨#[93, 32, 99, 111, 109, 109, 115, 32, 91]⟩ : ByteArray)) ++ t167).size + 1 ≤ 9223372036854775807 then (if ai > 0 then ((attr_digits.f ai).bind fun t168 => (if 6 + t168.size ≤ 9223372036854775807 then (if (((((((((((⟨#[112, 114, 101, 102, 32]⟩ : ByteArray) ++ t160) ++ (⟨#[32, 109, 101, 100, 32]⟩ : ByteArray)) ++ t161) ++ (⟨#[32, 111, 114, 105, 103, 105, 110, 32]⟩ : ByteArray)) ++ (rdOf ByteArray.empty ad ac)) ++ (⟨#[32, 112, 97, 116, 104, 32, 91]⟩ : ByteArray)) ++ t166) ++ (⟨#[93, 32, 99, 111, 109, 109, 115, 32, 91]⟩ : ByteArray)) ++ t167) ++ (⟨#[93]⟩ : ByteArray)).size + ((⟨#[32, 102, 114, 111, 109, 32]⟩ : ByteArray) ++ t168).size ≤ 9223372036854775807 then (attr_Text.j0 k ((((((((((((⟨#[112, 114, 101, 102, 32]⟩ : ByteArray) ++ t160) ++ (⟨#[32, 109, 101, 100, 32]⟩ : ByteArray)) ++ t161) ++ (⟨#[32, 111, 114, 105, 103, 105, 110, 32]⟩ : ByteArray)) ++ (rdOf ByteArray.empty ad ac)) ++ (⟨#[32, 112, 97, 116, 104, 32, 91]⟩ : ByteArray)) ++ t166) ++ (⟨#[93, 32, 99, 111, 109, 109, 115, 32, 91]⟩ : ByteArray)) ++ t167) ++ (⟨#[93]⟩ : ByteArray)) ++ ((⟨#[32, 102, 114, 111, 109, 32]⟩ : ByteArray) ++ t168)) aj ak ac ag ah ai ae) else (none)) else (none))) else (attr_Text.j0 k (((((((((((⟨#[112, 114, 101, 102, 32]⟩ : ByteArray) ++ t160) ++ (⟨#[32, 109, 101, 100, 32]⟩ : ByteArray)) ++ t161) ++ (⟨#[32, 111, 114, 105, 103, 105, 110, 32]⟩ : ByteArray)) ++ (rdOf ByteArray.empty ad ac)) ++ (⟨#[32, 112, 97, 116, 104, 32, 91]⟩ : ByteArray)) ++ t166) ++ (⟨#[93, 32, 99, 111, 109, 109, 115, 32, 91]⟩ : ByteArray)) ++ t167) ++ (⟨#[93]⟩ : ByteArray)) aj ak ac ag ah ai ae)) else (none)) else (none))) else (none)) else (none))) else (none)) else (none)) else (none)) else (none)) = some r := by first | (rw [hy162]; with_reducible exact H) | (have H2_ := (Option.bind_some _ _).symm.trans H; rw [hy162]; with_reducible exact H2_) | (have H2_ := (Option.bind_some _ _).symm.trans H; with_reducible exact H2_) | with_reducible exact H | (rw [hy162]; exact H) | exact H
      have Ny162 := Aside0.mk hy162
      clear hy162
      by_cases c10 : 0 ≤ ac
      ·rw [if_pos c10] at H
       have c10b0 : decide (0 ≤ ac) = true := decide_eq_true c10
       clear c10
       by_cases c11 : ac < (ad.length : Int)
       ·rw [if_pos c11] at H
        have c11b0 : decide (ac < (ad.length : Int)) = true := decide_eq_true c11
        clear c11
        by_cases c12 : (((((⟨#[112, 114, 101, 102, 32]⟩ : ByteArray) ++ t160) ++ (⟨#[32, 109, 101, 100, 32]⟩ : ByteArray)) ++ t161) ++ (⟨#[32, 111, 114, 105, 103, 105, 110, 32]⟩ : ByteArray)).size + (rdOf ByteArray.empty ad ac).size ≤ 9223372036854775807
        ·rw [if_pos c12] at H
         have c12b0 := eq_true c12
         have c12b1 : decide ((((((⟨#[112, 114, 101, 102, 32]⟩ : ByteArray) ++ t160) ++ (⟨#[32, 109, 101, 100, 32]⟩ : ByteArray)) ++ t161) ++ (⟨#[32, 111, 114, 105, 103, 105, 110, 32]⟩ : ByteArray)).size + (rdOf ByteArray.empty ad ac).size ≤ 9223372036854775807) = true := decide_eq_true c12
         try have c12b2 : (9223372036854775807 < (((((⟨#[112, 114, 101, 102, 32]⟩ : ByteArray) ++ t160) ++ (⟨#[32, 109, 101, 100, 32]⟩ : ByteArray)) ++ t161) ++ (⟨#[32, 111, 114, 105, 103, 105, 110, 32]⟩ : ByteArray)).size + (rdOf ByteArray.empty ad ac).size) = False := eq_false (Nat.not_lt.2 c12)
         try have c12b3 : (9223372036854775807 < 5 + t160.size + 5 + t161.size + 8 + (rdOf ByteArray.empty ad ac).size) = False := eq_false (Nat.not_lt.2 (by have h_ := c12; simp only [ByteArray.size_append] at h_; exact h_))
         by_cases c13 : ((((((⟨#[112, 114, 101, 102, 32]⟩ : ByteArray) ++ t160) ++ (⟨#[32, 109, 101, 100, 32]⟩ : ByteArray)) ++ t161) ++ (⟨#[32, 111, 114, 105, 103, 105, 110, 32]⟩ : ByteArray)) ++ (rdOf ByteArray.empty ad ac)).size + 7 ≤ 9223372036854775807
         ·rw [if_pos c13] at H
          have c13b0 := eq_true c13
          have c13b1 : decide (((((((⟨#[112, 114, 101, 102, 32]⟩ : ByteArray) ++ t160) ++ (⟨#[32, 109, 101, 100, 32]⟩ : ByteArray)) ++ t161) ++ (⟨#[32, 111, 114, 105, 103, 105, 110, 32]⟩ : ByteArray)) ++ (rdOf ByteArray.empty ad ac)).size + 7 ≤ 9223372036854775807) = true := decide_eq_true c13
          try have c13b2 : (9223372036854775807 < ((((((⟨#[112, 114, 101, 102, 32]⟩ : ByteArray) ++ t160) ++ (⟨#[32, 109, 101, 100, 32]⟩ : ByteArray)) ++ t161) ++ (⟨#[32, 111, 114, 105, 103, 105, 110, 32]⟩ : ByteArray)) ++ (rdOf ByteArray.empty ad ac)).size + 7) = False := eq_false (Nat.not_lt.2 c13)
          try have c13b3 : (9223372036854775807 < 5 + t160.size + 5 + t161.size + 8 + ((rdOf ByteArray.empty ad ac)).size + 7) = False := eq_false (Nat.not_lt.2 (by have h_ := c13; simp only [ByteArray.size_append] at h_; exact h_))
          replace H := Option.bind_eq_some_iff.mp H
          obtain ⟨t166, A140, H⟩ := H
          (try dsimp only at H)
          have A14 := Aside0.mk A140
          clear A140
          by_cases au : (((((((⟨#[112, 114, 101, 102, 32]⟩ : ByteArray) ++ t160) ++ (⟨#[32, 109, 101, 100, 32]⟩ : ByteArray)) ++ t161) ++ (⟨#[32, 111, 114, 105, 103, 105, 110, 32]⟩ : ByteArray)) ++ (rdOf ByteArray.empty ad ac)) ++ (⟨#[32, 112, 97, 116, 104, 32, 91]⟩ : ByteArray)).size + t166.size ≤ 9223372036854775807
          ·rw [if_pos au] at H
           have c15b0 := eq_true au
           have c15b1 : decide ((((((((⟨#[112, 114, 101, 102, 32]⟩ : ByteArray) ++ t160) ++ (⟨#[32, 109, 101, 100, 32]⟩ : ByteArray)) ++ t161) ++ (⟨#[32, 111, 114, 105, 103, 105, 110, 32]⟩ : ByteArray)) ++ (rdOf ByteArray.empty ad ac)) ++ (⟨#[32, 112, 97, 116, 104, 32, 91]⟩ : ByteArray)).size + t166.size ≤ 9223372036854775807) = true := decide_eq_true au
           try have c15b2 : (9223372036854775807 < (((((((⟨#[112, 114, 101, 102, 32]⟩ : ByteArray) ++ t160) ++ (⟨#[32, 109, 101, 100, 32]⟩ : ByteArray)) ++ t161) ++ (⟨#[32, 111, 114, 105, 103, 105, 110, 32]⟩ : ByteArray)) ++ (rdOf ByteArray.empty ad ac)) ++ (⟨#[32, 112, 97, 116, 104, 32, 91]⟩ : ByteArray)).size + t166.size) = False := eq_false (Nat.not_lt.2 au)
           try have c15b3 : (9223372036854775807 < 5 + t160.size + 5 + t161.size + 8 + ((rdOf ByteArray.empty ad ac)).size + 7 + t166.size) = False := eq_false (Nat.not_lt.2 (by have h_ := au; simp only [ByteArray.size_append] at h_; exact h_))
           by_cases av : ((((((((⟨#[112, 114, 101, 102, 32]⟩ : ByteArray) ++ t160) ++ (⟨#[32, 109, 101, 100, 32]⟩ : ByteArray)) ++ t161) ++ (⟨#[32, 111, 114, 105, 103, 105, 110, 32]⟩ : ByteArray)) ++ (rdOf ByteArray.empty ad ac)) ++ (⟨#[32, 112, 97, 116, 104, 32, 91]⟩ : ByteArray)) ++ t166).size + 9 ≤ 9223372036854775807
           ·rw [if_pos av] at H
            have c16b0 := eq_true av
            have c16b1 : decide (((((((((⟨#[112, 114, 101, 102, 32]⟩ : ByteArray) ++ t160) ++ (⟨#[32, 109, 101, 100, 32]⟩ : ByteArray)) ++ t161) ++ (⟨#[32, 111, 114, 105, 103, 105, 110, 32]⟩ : ByteArray)) ++ (rdOf ByteArray.empty ad ac)) ++ (⟨#[32, 112, 97, 116, 104, 32, 91]⟩ : ByteArray)) ++ t166).size + 9 ≤ 9223372036854775807) = true := decide_eq_true av
            try have c16b2 : (9223372036854775807 < ((((((((⟨#[112, 114, 101, 102, 32]⟩ : ByteArray) ++ t160) ++ (⟨#[32, 109, 101, 100, 32]⟩ : ByteArray)) ++ t161) ++ (⟨#[32, 111, 114, 105, 103, 105, 110, 32]⟩ : ByteArray)) ++ (rdOf ByteArray.empty ad ac)) ++ (⟨#[32, 112, 97, 116, 104, 32, 91]⟩ : ByteArray)) ++ t166).size + 9) = False := eq_false (Nat.not_lt.2 av)
            try have c16b3 : (9223372036854775807 < 5 + t160.size + 5 + t161.size + 8 + ((rdOf ByteArray.empty ad ac)).size + 7 + t166.size + 9) = False := eq_false (Nat.not_lt.2 (by have h_ := av; simp only [ByteArray.size_append] at h_; exact h_))
            replace H := Option.bind_eq_some_iff.mp H
            obtain ⟨t167, A170, H⟩ := H
            (try dsimp only at H)
            have A17 := Aside0.mk A170
            clear A170
            by_cases aw : (((((((((⟨#[112, 114, 101, 102, 32]⟩ : ByteArray) ++ t160) ++ (⟨#[32, 109, 101, 100, 32]⟩ : ByteArray)) ++ t161) ++ (⟨#[32, 111, 114, 105, 103, 105, 110, 32]⟩ : ByteArray)) ++ (rdOf ByteArray.empty ad ac)) ++ (⟨#[32, 112, 97, 116, 104, 32, 91]⟩ : ByteArray)) ++ t166) ++ (⟨#[93, 32, 99, 111, 109, 109, 115, 32, 91]⟩ : ByteArray)).size + t167.size ≤ 9223372036854775807
            ·rw [if_pos aw] at H
             have c18b0 := eq_true aw
             have c18b1 : decide ((((((((((⟨#[112, 114, 101, 102, 32]⟩ : ByteArray) ++ t160) ++ (⟨#[32, 109, 101, 100, 32]⟩ : ByteArray)) ++ t161) ++ (⟨#[32, 111, 114, 105, 103, 105, 110, 32]⟩ : ByteArray)) ++ (rdOf ByteArray.empty ad ac)) ++ (⟨#[32, 112, 97, 116, 104, 32, 91]⟩ : ByteArray)) ++ t166) ++ (⟨#[93, 32, 99, 111, 109, 109, 115, 32, 91]⟩ : ByteArray)).size + t167.size ≤ 9223372036854775807) = true := decide_eq_true aw
             try have c18b2 : (9223372036854775807 < (((((((((⟨#[112, 114, 101, 102, 32]⟩ : ByteArray) ++ t160) ++ (⟨#[32, 109, 101, 100, 32]⟩ : ByteArray)) ++ t161) ++ (⟨#[32, 111, 114, 105, 103, 105, 110, 32]⟩ : ByteArray)) ++ (rdOf ByteArray.empty ad ac)) ++ (⟨#[32, 112, 97, 116, 104, 32, 91]⟩ : ByteArray)) ++ t166) ++ (⟨#[93, 32, 99, 111, 109, 109, 115, 32, 91]⟩ : ByteArray)).size + t167.size) = False := eq_false (Nat.not_lt.2 aw)
             try have c18b3 : (9223372036854775807 < 5 + t160.size + 5 + t161.size + 8 + ((rdOf ByteArray.empty ad ac)).size + 7 + t166.size + 9 + t167.size) = False := eq_false (Nat.not_lt.2 (by have h_ := aw; simp only [ByteArray.size_append] at h_; exact h_))
             by_cases ax : ((((((((((⟨#[112, 114, 101, 102, 32]⟩ : ByteArray) ++ t160) ++ (⟨#[32, 109, 101, 100, 32]⟩ : ByteArray)) ++ t161) ++ (⟨#[32, 111, 114, 105, 103, 105, 110, 32]⟩ : ByteArray)) ++ (rdOf ByteArray.empty ad ac)) ++ (⟨#[32, 112, 97, 116, 104, 32, 91]⟩ : ByteArray)) ++ t166) ++ (⟨#[93, 32, 99, 111, 109, 109, 115, 32, 91]⟩ : ByteArray)) ++ t167).size + 1 ≤ 9223372036854775807
             ·rw [if_pos ax] at H
              have c19b0 := eq_true ax
              have c19b1 : decide (((((((((((⟨#[112, 114, 101, 102, 32]⟩ : ByteArray) ++ t160) ++ (⟨#[32, 109, 101, 100, 32]⟩ : ByteArray)) ++ t161) ++ (⟨#[32, 111, 114, 105, 103, 105, 110, 32]⟩ : ByteArray)) ++ (rdOf ByteArray.empty ad ac)) ++ (⟨#[32, 112, 97, 116, 104, 32, 91]⟩ : ByteArray)) ++ t166) ++ (⟨#[93, 32, 99, 111, 109, 109, 115, 32, 91]⟩ : ByteArray)) ++ t167).size + 1 ≤ 9223372036854775807) = true := decide_eq_true ax
              try have c19b2 : (9223372036854775807 < ((((((((((⟨#[112, 114, 101, 102, 32]⟩ : ByteArray) ++ t160) ++ (⟨#[32, 109, 101, 100, 32]⟩ : ByteArray)) ++ t161) ++ (⟨#[32, 111, 114, 105, 103, 105, 110, 32]⟩ : ByteArray)) ++ (rdOf ByteArray.empty ad ac)) ++ (⟨#[32, 112, 97, 116, 104, 32, 91]⟩ : ByteArray)) ++ t166) ++ (⟨#[93, 32, 99, 111, 109, 109, 115, 32, 91]⟩ : ByteArray)) ++ t167).size + 1) = False := eq_false (Nat.not_lt.2 ax)
              try have c19b3 : (9223372036854775807 < 5 + t160.size + 5 + t161.size + 8 + ((rdOf ByteArray.empty ad ac)).size + 7 + t166.size + 9 + t167.size + 1) = False := eq_false (Nat.not_lt.2 (by have h_ := ax; simp only [ByteArray.size_append] at h_; exact h_))
              have HC20 := Aside0.mk H
              clear H
              go_enter Try.func14, Try.ntmps14
              try go_wp2_with (first | ((with_reducible refine gate_dst (N := 1) rfl ?_); refine box_event ?hg (N := 1) ?hd (cs := #[.int .i64 aj, .int .i64 ak, .int .i64 ac, .slice al ag.length am, .slice an ah.length ao, .int .i64 ai, .slice ar ae.length aq]) (t := 30) ?hr ?_; (case hd => rfl); (case hg => rfl); (case hr => first | (go_simp; done) | (go_simp; rfl)); intro ab hg w21 hbox hb; have n0_ := Aside0.mk (below_step (by repeat (first | (with_reducible first | exact HB.out | apply below_alloc | apply pw_below_drewN | apply below_drew1) | exact HB.out)) hb); have n1_ := Aside0.mk (hbox); have n2_ := Aside0.mk ((by rw [hg]; exact (below_size (by repeat (first | (with_reducible first | exact HB.out | apply below_alloc | apply pw_below_drewN | apply below_drew1) | exact HB.out))) : w.heap.size ≤ ab)); have n3_ := Aside0.mk ((by rw [hg]; exact (below_size (by repeat (first | (with_reducible first | exact HB.out | apply below_alloc | apply pw_below_drewN | apply below_drew1) | exact HB.out))) : w.heap.size ≤ ab)); clear HB; have HB := n0_; have aa := n1_; have GW158 := n2_; have af := n3_; clear n0_ n1_ n2_ n3_; clear hb hbox hg; have hcz22_0 : w21.cell? ⟨ab, 0, none⟩ = some (.int .i64 aj) := (blk_cell aa.out 0).trans rfl; have hcz22_1 : w21.cell? ⟨ab, 1, none⟩ = some (.int .i64 ak) := (blk_cell aa.out 1).trans rfl; have hcz22_2 : w21.cell? ⟨ab, 2, none⟩ = some (.int .i64 ac) := (blk_cell aa.out 2).trans rfl; have hcz22_3 : w21.cell? ⟨ab, 3, none⟩ = some (.slice al ag.length am) := (blk_cell aa.out 3).trans rfl; have hcz22_4 : w21.cell? ⟨ab, 4, none⟩ = some (.slice an ah.length ao) := (blk_cell aa.out 4).trans rfl; have hcz22_5 : w21.cell? ⟨ab, 5, none⟩ = some (.int .i64 ai) := (blk_cell aa.out 5).trans rfl; have hcz22_6 : w21.cell? ⟨ab, 6, none⟩ = some (.slice ar ae.length aq) := (blk_cell aa.out 6).trans rfl; have hfz22_0 := blk_frozen aa.out 0; have hfz22_1 := blk_frozen aa.out 1; have hfz22_2 := blk_frozen aa.out 2; have hfz22_3 := blk_frozen aa.out 3; have hfz22_4 := blk_frozen aa.out 4; have hfz22_5 := blk_frozen aa.out 5; have hfz22_6 := blk_frozen aa.out 6) | ((with_reducible refine gate_callee (f := 15) rfl ?_); refine goesL_ (some 8) rfl rfl Try.func15 (by kernel_rfl) rfl #[.agg #[.int .i64 aj, .int .i64 ak, .int .i64 ac, .slice al ag.length am, .slice an ah.length ao, .int .i64 ai, .slice ar ae.length aq]] rfl (by (try simp only [List.map_toArray, List.map_cons, List.map_nil]); first | done | rfl) ?_; (with_reducible refine (attr_May.calls k aj ak ac _ _ ag _ _ ah ai _ _ ae true _ ?side1 ?side2 ?side3 ?side4 ?side5 ?side6 A2.out).mono ?_); (case side1 | side3 | side5 => repeat (first | exact (Kd.C_below HR0_3.out HB.out) | exact (Kd.C_below HR0_4.out HB.out) | exact (Kd.C_below HR0_6.out HB.out) | (with_reducible refine Kd.C_alloc ?_ _) | (with_reducible refine Kd.C_drewN ?_ _) | (with_reducible refine Kd.C_drew ?_))); (case side2 | side4 | side6 => first | exact HC0_3.out | exact HC0_4.out | exact HC0_6.out); rintro e w23 ⟨rfl, hb⟩; refine ⟨_, rfl, ?_⟩; replace aa := Aside0.mk (blk_below (g := ab) (by (with_reducible repeat (first | refine blk_drewN ?_ _ | refine blk_drew ?_ | refine blk_alloc ?_ _)); exact aa.out) hb); replace HB := Aside0.mk (below_step (by repeat (first | (with_reducible first | exact HB.out | apply below_alloc | apply pw_below_drewN | apply below_drew1 | refine below_set ?_ af.out) | exact HB.out)) hb); (try clear hb); (try clear ay); (try clear hk); (try clear hi)))
              have pi165 : (0 ≤ (ac : Int)) = True := eq_true (of_decide_eq_true (by first | (with_reducible assumption) | assumption))
              have qi165 : (ac < (ad.length : Int)) = True := eq_true (of_decide_eq_true (by first | (with_reducible assumption) | assumption))
              replace aa := Aside0.mk (blk_drew aa.out)
              replace HB := Aside0.mk (below_drew1 HB.out)
              refine start_ (n := 28) (S := fun w' => True) (ds := []) #[false, false, false, false, false, false, false, false, false, false, false, false, false, false, false, false, false, false, false, false, false, false, false, false, false, false, false, false] (by kernel_rfl) rfl rfl trivial (fun hHeld => ?_); refine with_tabW attr_Text.tab3 attr_Text.bits3 (fun HT_ HW_ => ?_)
              generalize w23.drew = w24 at aa HB hHeld ⊢
              refine pure_ (i := 0) (N := some 10) (v := ?_) (a' := ?_) #[true, false, false, false, false, false, false, false, false, false, false, false, false, false, false, false, false, false, false, false, false, false, false, false, false, false, false, false] rfl rfl (any_of HT_.out (by kernel_rfl)) (fun _ _ _ h => h) (Or.inl ⟨by rfl, ?_⟩) ?_ ?_
              rotate_left
              ·intro w'
               go_simp
               with_reducible rfl
              rotate_left
              ·simp only [Act.put, List.setIfInBounds_toArray, List.set_cons_zero, List.set_cons_succ, i64_w, i32_w]
               rfl
              refine pure_ (i := 5) (N := some 15) (v := ?_) (a' := ?_) #[true, false, false, false, false, true, false, false, false, false, false, false, false, false, false, false, false, false, false, false, false, false, false, false, false, false, false, false] rfl rfl (any_of HT_.out (by kernel_rfl)) (fun _ _ _ h => h) (Or.inl ⟨by rfl, ?_⟩) ?_ ?_
              rotate_left
              ·intro w'
               go_simp
               with_reducible rfl
              rotate_left
              ·simp only [Act.put, List.setIfInBounds_toArray, List.set_cons_zero, List.set_cons_succ, i64_w, i32_w]
               rfl
              refine pure_ (i := 11) (N := some 21) (v := ?_) (a' := ?_) #[true, false, false, false, false, true, false, false, false, false, false, true, false, false, false, false, false, false, false, false, false, false, false, false, false, false, false, false] rfl rfl (any_of HT_.out (by kernel_rfl)) (fun _ _ _ h => h) (Or.inl ⟨by rfl, ?_⟩) ?_ ?_
              rotate_left
              ·intro w'
               go_simp
               with_reducible rfl
              rotate_left
              ·simp only [Act.put, List.setIfInBounds_toArray, List.set_cons_zero, List.set_cons_succ, i64_w, i32_w]
               rfl
              refine pure_ (i := 17) (N := some 27) (v := ?_) (a' := ?_) #[true, false, false, false, false, true, false, false, false, false, false, true, false, false, false, false, false, true, false, false, false, false, false, false, false, false, false, false] rfl rfl (any_of HT_.out (by kernel_rfl)) (fun _ _ _ h => h) (Or.inl ⟨by rfl, ?_⟩) ?_ ?_
              rotate_left
              ·intro w'
               go_simp
               with_reducible rfl
              rotate_left
              ·simp only [Act.put, List.setIfInBounds_toArray, List.set_cons_zero, List.set_cons_succ, i64_w, i32_w]
               rfl
              refine pure_ (i := 22) (N := some 32) (v := ?_) (a' := ?_) #[true, false, false, false, false, true, false, false, false, false, false, true, false, false, false, false, false, true, false, false, false, false, true, false, false, false, false, false] rfl rfl (any_of HT_.out (by kernel_rfl)) (fun _ _ _ h => h) (Or.inl ⟨by rfl, ?_⟩) ?_ ?_
              rotate_left
              ·intro w'
               go_simp
               with_reducible rfl
              rotate_left
              ·simp only [Act.put, List.setIfInBounds_toArray, List.set_cons_zero, List.set_cons_succ, i64_w, i32_w]
               rfl
              refine inv_at [1, 2, 3, 4, 6, 7, 8, 9, 10, 12, 13, 14, 15, 16, 18, 19, 20, 21, 23, 24, 25, 26, 27] (fun a0_ b a w' => ∃ (v163 : Value) (adz_v163 : Addr) (m13_ : Value), a = putSel a0_ b [(1, 11, .int .i64 aj), (2, 12, .string t160), (3, 13, .string ((⟨#[112, 114, 101, 102, 32]⟩ : ByteArray) ++ t160)), (4, 14, .string (((⟨#[112, 114, 101, 102, 32]⟩ : ByteArray) ++ t160) ++ (⟨#[32, 109, 101, 100, 32]⟩ : ByteArray))), (6, 16, .int .i64 ak), (7, 17, .string t161), (8, 18, .string ((((⟨#[112, 114, 101, 102, 32]⟩ : ByteArray) ++ t160) ++ (⟨#[32, 109, 101, 100, 32]⟩ : ByteArray)) ++ t161)), (9, 19, .string (((((⟨#[112, 114, 101, 102, 32]⟩ : ByteArray) ++ t160) ++ (⟨#[32, 109, 101, 100, 32]⟩ : ByteArray)) ++ t161) ++ (⟨#[32, 111, 114, 105, 103, 105, 110, 32]⟩ : ByteArray))), (10, 20, v163), (12, 22, .int .i64 ac), (13, 23, m13_), (14, 24, .string (rdOf ByteArray.empty ad ac)), (15, 25, .string ((((((⟨#[112, 114, 101, 102, 32]⟩ : ByteArray) ++ t160) ++ (⟨#[32, 109, 101, 100, 32]⟩ : ByteArray)) ++ t161) ++ (⟨#[32, 111, 114, 105, 103, 105, 110, 32]⟩ : ByteArray)) ++ (rdOf ByteArray.empty ad ac))), (16, 26, .string (((((((⟨#[112, 114, 101, 102, 32]⟩ : ByteArray) ++ t160) ++ (⟨#[32, 109, 101, 100, 32]⟩ : ByteArray)) ++ t161) ++ (⟨#[32, 111, 114, 105, 103, 105, 110, 32]⟩ : ByteArray)) ++ (rdOf ByteArray.empty ad ac)) ++ (⟨#[32, 112, 97, 116, 104, 32, 91]⟩ : ByteArray))), (18, 28, .slice al ag.length am), (19, 29, .string t166), (20, 30, .string ((((((((⟨#[112, 114, 101, 102, 32]⟩ : ByteArray) ++ t160) ++ (⟨#[32, 109, 101, 100, 32]⟩ : ByteArray)) ++ t161) ++ (⟨#[32, 111, 114, 105, 103, 105, 110, 32]⟩ : ByteArray)) ++ (rdOf ByteArray.empty ad ac)) ++ (⟨#[32, 112, 97, 116, 104, 32, 91]⟩ : ByteArray)) ++ t166)), (21, 31, .string (((((((((⟨#[112, 114, 101, 102, 32]⟩ : ByteArray) ++ t160) ++ (⟨#[32, 109, 101, 100, 32]⟩ : ByteArray)) ++ t161) ++ (⟨#[32, 111, 114, 105, 103, 105, 110, 32]⟩ : ByteArray)) ++ (rdOf ByteArray.empty ad ac)) ++ (⟨#[32, 112, 97, 116, 104, 32, 91]⟩ : ByteArray)) ++ t166) ++ (⟨#[93, 32, 99, 111, 109, 109, 115, 32, 91]⟩ : ByteArray))), (23, 33, .slice an ah.length ao), (24, 34, .string t167), (25, 35, .string ((((((((((⟨#[112, 114, 101, 102, 32]⟩ : ByteArray) ++ t160) ++ (⟨#[32, 109, 101, 100, 32]⟩ : ByteArray)) ++ t161) ++ (⟨#[32, 111, 114, 105, 103, 105, 110, 32]⟩ : ByteArray)) ++ (rdOf ByteArray.empty ad ac)) ++ (⟨#[32, 112, 97, 116, 104, 32, 91]⟩ : ByteArray)) ++ t166) ++ (⟨#[93, 32, 99, 111, 109, 109, 115, 32, 91]⟩ : ByteArray)) ++ t167)), (26, 36, .string (((((((((((⟨#[112, 114, 101, 102, 32]⟩ : ByteArray) ++ t160) ++ (⟨#[32, 109, 101, 100, 32]⟩ : ByteArray)) ++ t161) ++ (⟨#[32, 111, 114, 105, 103, 105, 110, 32]⟩ : ByteArray)) ++ (rdOf ByteArray.empty ad ac)) ++ (⟨#[32, 112, 97, 116, 104, 32, 91]⟩ : ByteArray)) ++ t166) ++ (⟨#[93, 32, 99, 111, 109, 109, 115, 32, 91]⟩ : ByteArray)) ++ t167) ++ (⟨#[93]⟩ : ByteArray))), (27, 3, .string (((((((((((⟨#[112, 114, 101, 102, 32]⟩ : ByteArray) ++ t160) ++ (⟨#[32, 109, 101, 100, 32]⟩ : ByteArray)) ++ t161) ++ (⟨#[32, 111, 114, 105, 103, 105, 110, 32]⟩ : ByteArray)) ++ (rdOf ByteArray.empty ad ac)) ++ (⟨#[32, 112, 97, 116, 104, 32, 91]⟩ : ByteArray)) ++ t166) ++ (⟨#[93, 32, 99, 111, 109, 109, 115, 32, 91]⟩ : ByteArray)) ++ t167) ++ (⟨#[93]⟩ : ByteArray)))] ∧ (w'.heap[ab]? = some (.cells #[.int .i64 aj, .int .i64 ak, .int .i64 ac, .slice al ag.length am, .slice an ah.length ao, .int .i64 ai, .slice ar ae.length aq] 30 (0, 0))) ∧ (Below w.heap.size w w') ∧ (b 10 = true → Kd.R Kd.string 9 w' w.heap.size (fun _ => True) v163 ad) ∧ (b 10 = true → ∃ c_, (v163 : Value) = .slice (some adz_v163) ad.length c_) ∧ (b 13 = true → (m13_ : Value) = .pointer (some (adz_v163.add (ac).toNat)))) HT_.out HW_.out (by kernel_rfl) (by kernel_rfl) ?_ ?_ ?_
              ·exact ⟨.bool false, ⟨0, 0, none⟩, .bool false, by simp only [putSel, Bool.false_eq_true, if_false], aa.out, HB.out, fun h_ => absurd h_ (by decide), fun h_ => absurd h_ (by decide), fun h_ => absurd h_ (by decide)⟩
              ·skip
               clear aa HB
               refine steps_cons ?_ ?_
               ·rintro b a w' ⟨v163, adz_v163, m13_, ha, Q_BK158, Q_HB, Q_HO164, Q_HA_HO164, Q_X13_⟩ hb_ hon hoff
                refine ⟨_, rfl, fun K hK => ?_⟩
                have e10 : a.tmps[10]? = some (.pointer (some ⟨ab, 0, none⟩)) := by rw [ha]; exact (putSel_off rfl).trans rfl
                replace ha := Aside0.mk ha
                have aa := Aside0.mk Q_BK158
                have HB := Aside0.mk Q_HB
                have hc0_ : w'.cell? ⟨ab, 0, none⟩ = some (.int .i64 aj) := (blk_cell aa.out 0).trans rfl
                have hc1_ : w'.cell? ⟨ab, 1, none⟩ = some (.int .i64 ak) := (blk_cell aa.out 1).trans rfl
                have hc2_ : w'.cell? ⟨ab, 2, none⟩ = some (.int .i64 ac) := (blk_cell aa.out 2).trans rfl
                have hc3_ : w'.cell? ⟨ab, 3, none⟩ = some (.slice al ag.length am) := (blk_cell aa.out 3).trans rfl
                have hc4_ : w'.cell? ⟨ab, 4, none⟩ = some (.slice an ah.length ao) := (blk_cell aa.out 4).trans rfl
                have hc5_ : w'.cell? ⟨ab, 5, none⟩ = some (.int .i64 ai) := (blk_cell aa.out 5).trans rfl
                have hc6_ : w'.cell? ⟨ab, 6, none⟩ = some (.slice ar ae.length aq) := (blk_cell aa.out 6).trans rfl
                refine value_ (w1 := w') (v := .int .i64 aj) (by rfl) rfl ?_ ?_
                ·go_simp
                 (try simp only [i64_w])
                 try rfl
                refine hK.out _ _ ⟨v163, adz_v163, m13_, (by rw [ha.out]; exact putSel_upk 0 hb_ rfl rfl rfl), Q_BK158, Q_HB, Q_HO164, Q_HA_HO164, Q_X13_⟩
               refine steps_cons ?_ ?_
               ·rintro b a w' ⟨v163, adz_v163, m13_, ha, Q_BK158, Q_HB, Q_HO164, Q_HA_HO164, Q_X13_⟩ hb_ hon hoff
                refine ⟨_, rfl, fun K hK => ?_⟩
                have e11 : a.tmps[11]? = some (.int .i64 aj) := by rw [ha]; exact putSel_on (e := (1, 11, .int .i64 aj)) 0 rfl rfl (hon 1 (by kernel_rfl)) rfl
                replace ha := Aside0.mk ha
                have aa := Aside0.mk Q_BK158
                have HB := Aside0.mk Q_HB
                refine goes_ Try.func37 (by kernel_rfl) rfl #[.int .i64 aj] (by rfl) rfl rfl (by first | (simp only [List.map_toArray, List.map_cons, List.map_nil, Act.eval, Array.getD_eq_getD_getElem?, Option.getD_some, e11]; done) | (simp only [List.map_toArray, List.map_cons, List.map_nil, Act.eval, Array.getD_eq_getD_getElem?, Option.getD_some, e11]; rfl)) ?_
                with_reducible refine (attr_digits.calls aj t160 _ A4.out).mono ?_
                rintro e w25 ⟨rfl, hb⟩
                refine ⟨_, rfl, ?_⟩
                have n0_ := Aside0.mk (blk_below (g := ab) (by (with_reducible repeat (first | refine blk_drewN ?_ _ | refine blk_drew ?_ | refine blk_alloc ?_ _)); exact aa.out) hb)
                have n1_ := Aside0.mk (below_step (by repeat (first | (with_reducible first | exact HB.out | apply below_alloc | apply pw_below_drewN | apply below_drew1 | refine below_set ?_ af.out) | exact HB.out)) hb)
                have z_HO164 := fun (h0_ : b 10 = true) => (show Kd.R Kd.string 9 w25 w.heap.size (fun _ => True) v163 ad from by first | exact (Kd.R_below (by (with_reducible repeat (first | apply Kd.R_alloc | apply Kd.R_drewN | apply Kd.R_drew)); exact (Q_HO164 h0_)) hb) | exact Kd.R_mono (Kd.R_below (by (with_reducible repeat (first | apply Kd.R_alloc | apply Kd.R_drewN | apply Kd.R_drew)); exact (Q_HO164 h0_)) hb) (fun _ h_ => by first | trivial | exact h_ | exact h_.1))
                clear aa
                clear HB
                have aa := n0_
                have HB := n1_
                clear n0_ n1_
                (try clear hb)
                (try clear ay)
                (try clear hk)
                (try clear hi)
                refine hK.out _ _ ⟨v163, adz_v163, m13_, (by rw [ha.out]; exact putSel_upk 1 hb_ rfl rfl rfl), (by (with_reducible repeat (first | refine blk_drewN ?_ _ | refine blk_drew ?_ | refine blk_alloc ?_ _)); exact aa.out), (by repeat (first | (with_reducible first | exact HB.out | apply below_alloc | apply pw_below_drewN | apply below_drew1 | refine below_set ?_ af.out) | exact HB.out)), z_HO164, Q_HA_HO164, Q_X13_⟩
               refine steps_cons ?_ ?_
               ·rintro b a w' ⟨v163, adz_v163, m13_, ha, Q_BK158, Q_HB, Q_HO164, Q_HA_HO164, Q_X13_⟩ hb_ hon hoff
                refine ⟨_, rfl, fun K hK => ?_⟩
                have e12 : a.tmps[12]? = some (.string t160) := by rw [ha]; exact putSel_on (e := (2, 12, .string t160)) 1 rfl rfl (hon 2 (by kernel_rfl)) rfl
                replace ha := Aside0.mk ha
                have aa := Aside0.mk Q_BK158
                have HB := Aside0.mk Q_HB
                refine value_ (w1 := w') (v := .string ((⟨#[112, 114, 101, 102, 32]⟩ : ByteArray) ++ t160)) (by rfl) rfl ?_ ?_
                ·go_simp
                 (try simp only [i64_w])
                 try rfl
                refine hK.out _ _ ⟨v163, adz_v163, m13_, (by rw [ha.out]; exact putSel_upk 2 hb_ rfl rfl rfl), Q_BK158, Q_HB, Q_HO164, Q_HA_HO164, Q_X13_⟩
               refine steps_cons ?_ ?_
               ·rintro b a w' ⟨v163, adz_v163, m13_, ha, Q_BK158, Q_HB, Q_HO164, Q_HA_HO164, Q_X13_⟩ hb_ hon hoff
                refine ⟨_, rfl, fun K hK => ?_⟩
                have e13 : a.tmps[13]? = some (.string ((⟨#[112, 114, 101, 102, 32]⟩ : ByteArray) ++ t160)) := by rw [ha]; exact putSel_on (e := (3, 13, .string ((⟨#[112, 114, 101, 102, 32]⟩ : ByteArray) ++ t160))) 2 rfl rfl (hon 3 (by kernel_rfl)) rfl
                replace ha := Aside0.mk ha
                have aa := Aside0.mk Q_BK158
                have HB := Aside0.mk Q_HB
                refine value_ (w1 := w') (v := .string (((⟨#[112, 114, 101, 102, 32]⟩ : ByteArray) ++ t160) ++ (⟨#[32, 109, 101, 100, 32]⟩ : ByteArray))) (by rfl) rfl ?_ ?_
                ·go_simp
                 (try simp only [i64_w])
                 try rfl
                refine hK.out _ _ ⟨v163, adz_v163, m13_, (by rw [ha.out]; exact putSel_upk 3 hb_ rfl rfl rfl), Q_BK158, Q_HB, Q_HO164, Q_HA_HO164, Q_X13_⟩
               refine steps_cons ?_ ?_
               ·rintro b a w' ⟨v163, adz_v163, m13_, ha, Q_BK158, Q_HB, Q_HO164, Q_HA_HO164, Q_X13_⟩ hb_ hon hoff
                refine ⟨_, rfl, fun K hK => ?_⟩
                have e15 : a.tmps[15]? = some (.pointer (some ⟨ab, 1, none⟩)) := by rw [ha]; exact (putSel_off rfl).trans rfl
                replace ha := Aside0.mk ha
                have aa := Aside0.mk Q_BK158
                have HB := Aside0.mk Q_HB
                have hc0_ : w'.cell? ⟨ab, 0, none⟩ = some (.int .i64 aj) := (blk_cell aa.out 0).trans rfl
                have hc1_ : w'.cell? ⟨ab, 1, none⟩ = some (.int .i64 ak) := (blk_cell aa.out 1).trans rfl
                have hc2_ : w'.cell? ⟨ab, 2, none⟩ = some (.int .i64 ac) := (blk_cell aa.out 2).trans rfl
                have hc3_ : w'.cell? ⟨ab, 3, none⟩ = some (.slice al ag.length am) := (blk_cell aa.out 3).trans rfl
                have hc4_ : w'.cell? ⟨ab, 4, none⟩ = some (.slice an ah.length ao) := (blk_cell aa.out 4).trans rfl
                have hc5_ : w'.cell? ⟨ab, 5, none⟩ = some (.int .i64 ai) := (blk_cell aa.out 5).trans rfl
                have hc6_ : w'.cell? ⟨ab, 6, none⟩ = some (.slice ar ae.length aq) := (blk_cell aa.out 6).trans rfl
                refine value_ (w1 := w') (v := .int .i64 ak) (by rfl) rfl ?_ ?_
                ·go_simp
                 (try simp only [i64_w])
                 try rfl
                refine hK.out _ _ ⟨v163, adz_v163, m13_, (by rw [ha.out]; exact putSel_upk 4 hb_ rfl rfl rfl), Q_BK158, Q_HB, Q_HO164, Q_HA_HO164, Q_X13_⟩
               refine steps_cons ?_ ?_
               ·rintro b a w' ⟨v163, adz_v163, m13_, ha, Q_BK158, Q_HB, Q_HO164, Q_HA_HO164, Q_X13_⟩ hb_ hon hoff
                refine ⟨_, rfl, fun K hK => ?_⟩
                have e16 : a.tmps[16]? = some (.int .i64 ak) := by rw [ha]; exact putSel_on (e := (6, 16, .int .i64 ak)) 4 rfl rfl (hon 6 (by kernel_rfl)) rfl
                replace ha := Aside0.mk ha
                have aa := Aside0.mk Q_BK158
                have HB := Aside0.mk Q_HB
                refine goes_ Try.func37 (by kernel_rfl) rfl #[.int .i64 ak] (by rfl) rfl rfl (by first | (simp only [List.map_toArray, List.map_cons, List.map_nil, Act.eval, Array.getD_eq_getD_getElem?, Option.getD_some, e16]; done) | (simp only [List.map_toArray, List.map_cons, List.map_nil, Act.eval, Array.getD_eq_getD_getElem?, Option.getD_some, e16]; rfl)) ?_
                with_reducible refine (attr_digits.calls ak t161 _ A7.out).mono ?_
                rintro e w27 ⟨rfl, hb⟩
                refine ⟨_, rfl, ?_⟩
                have n0_ := Aside0.mk (blk_below (g := ab) (by (with_reducible repeat (first | refine blk_drewN ?_ _ | refine blk_drew ?_ | refine blk_alloc ?_ _)); exact aa.out) hb)
                have n1_ := Aside0.mk (below_step (by repeat (first | (with_reducible first | exact HB.out | apply below_alloc | apply pw_below_drewN | apply below_drew1 | refine below_set ?_ af.out) | exact HB.out)) hb)
                have z_HO164 := fun (h0_ : b 10 = true) => (show Kd.R Kd.string 9 w27 w.heap.size (fun _ => True) v163 ad from by first | exact (Kd.R_below (by (with_reducible repeat (first | apply Kd.R_alloc | apply Kd.R_drewN | apply Kd.R_drew)); exact (Q_HO164 h0_)) hb) | exact Kd.R_mono (Kd.R_below (by (with_reducible repeat (first | apply Kd.R_alloc | apply Kd.R_drewN | apply Kd.R_drew)); exact (Q_HO164 h0_)) hb) (fun _ h_ => by first | trivial | exact h_ | exact h_.1))
                clear aa
                clear HB
                have aa := n0_
                have HB := n1_
                clear n0_ n1_
                (try clear hb)
                (try clear ay)
                (try clear hk)
                (try clear hi)
                refine hK.out _ _ ⟨v163, adz_v163, m13_, (by rw [ha.out]; exact putSel_upk 5 hb_ rfl rfl rfl), (by (with_reducible repeat (first | refine blk_drewN ?_ _ | refine blk_drew ?_ | refine blk_alloc ?_ _)); exact aa.out), (by repeat (first | (with_reducible first | exact HB.out | apply below_alloc | apply pw_below_drewN | apply below_drew1 | refine below_set ?_ af.out) | exact HB.out)), z_HO164, Q_HA_HO164, Q_X13_⟩
               refine steps_cons ?_ ?_
               ·rintro b a w' ⟨v163, adz_v163, m13_, ha, Q_BK158, Q_HB, Q_HO164, Q_HA_HO164, Q_X13_⟩ hb_ hon hoff
                refine ⟨_, rfl, fun K hK => ?_⟩
                have e14 : a.tmps[14]? = some (.string (((⟨#[112, 114, 101, 102, 32]⟩ : ByteArray) ++ t160) ++ (⟨#[32, 109, 101, 100, 32]⟩ : ByteArray))) := by rw [ha]; exact putSel_on (e := (4, 14, .string (((⟨#[112, 114, 101, 102, 32]⟩ : ByteArray) ++ t160) ++ (⟨#[32, 109, 101, 100, 32]⟩ : ByteArray)))) 3 rfl rfl (hon 4 (by kernel_rfl)) rfl
                have e17 : a.tmps[17]? = some (.string t161) := by rw [ha]; exact putSel_on (e := (7, 17, .string t161)) 5 rfl rfl (hon 7 (by kernel_rfl)) rfl
                replace ha := Aside0.mk ha
                have aa := Aside0.mk Q_BK158
                have HB := Aside0.mk Q_HB
                refine value_ (w1 := w') (v := .string ((((⟨#[112, 114, 101, 102, 32]⟩ : ByteArray) ++ t160) ++ (⟨#[32, 109, 101, 100, 32]⟩ : ByteArray)) ++ t161)) (by rfl) rfl ?_ ?_
                ·go_simp
                 (try simp only [i64_w])
                 try rfl
                refine hK.out _ _ ⟨v163, adz_v163, m13_, (by rw [ha.out]; exact putSel_upk 6 hb_ rfl rfl rfl), Q_BK158, Q_HB, Q_HO164, Q_HA_HO164, Q_X13_⟩
               refine steps_cons ?_ ?_
               ·rintro b a w' ⟨v163, adz_v163, m13_, ha, Q_BK158, Q_HB, Q_HO164, Q_HA_HO164, Q_X13_⟩ hb_ hon hoff
                refine ⟨_, rfl, fun K hK => ?_⟩
                have e18 : a.tmps[18]? = some (.string ((((⟨#[112, 114, 101, 102, 32]⟩ : ByteArray) ++ t160) ++ (⟨#[32, 109, 101, 100, 32]⟩ : ByteArray)) ++ t161)) := by rw [ha]; exact putSel_on (e := (8, 18, .string ((((⟨#[112, 114, 101, 102, 32]⟩ : ByteArray) ++ t160) ++ (⟨#[32, 109, 101, 100, 32]⟩ : ByteArray)) ++ t161))) 6 rfl rfl (hon 8 (by kernel_rfl)) rfl
                replace ha := Aside0.mk ha
                have aa := Aside0.mk Q_BK158
                have HB := Aside0.mk Q_HB
                refine value_ (w1 := w') (v := .string (((((⟨#[112, 114, 101, 102, 32]⟩ : ByteArray) ++ t160) ++ (⟨#[32, 109, 101, 100, 32]⟩ : ByteArray)) ++ t161) ++ (⟨#[32, 111, 114, 105, 103, 105, 110, 32]⟩ : ByteArray))) (by rfl) rfl ?_ ?_
                ·go_simp
                 (try simp only [i64_w])
                 try rfl
                refine hK.out _ _ ⟨v163, adz_v163, m13_, (by rw [ha.out]; exact putSel_upk 7 hb_ rfl rfl rfl), Q_BK158, Q_HB, Q_HO164, Q_HA_HO164, Q_X13_⟩
               refine steps_cons ?_ ?_
               ·rintro b a w' ⟨v163, adz_v163, m13_, ha, Q_BK158, Q_HB, Q_HO164, Q_HA_HO164, Q_X13_⟩ hb_ hon hoff
                refine ⟨_, rfl, fun K hK => ?_⟩
                replace ha := Aside0.mk ha
                have aa := Aside0.mk Q_BK158
                have HB := Aside0.mk Q_HB
                refine Kd.R_lit_step Kd.string _ 9 ?hg (N := 20) ?hd (xs := ([(⟨#[105, 103, 112]⟩ : ByteArray), (⟨#[101, 103, 112]⟩ : ByteArray), (⟨#[110, 111, 110, 101]⟩ : ByteArray)] : List ByteArray)) (inner := [.string (⟨#[105, 103, 112]⟩ : ByteArray), .string (⟨#[101, 103, 112]⟩ : ByteArray), .string (⟨#[110, 111, 110, 101]⟩ : ByteArray)]) (ok := fun _ => True) (okp := fun _ => True) ?hr ?hp (fun _ hk => hk) trivial (Below.refl _ _) (Nat.le_refl _) (by simp) ?_; (case hd => rfl); (case hg => rfl); (case hr => first | (go_simp; done) | (go_simp; rfl)); (case hp => exact (Reps.one (show Kd.M Kd.string _ _ _ (⟨#[105, 103, 112]⟩ : ByteArray) [.string (⟨#[105, 103, 112]⟩ : ByteArray)] from rfl) (Reps.one (show Kd.M Kd.string _ _ _ (⟨#[101, 103, 112]⟩ : ByteArray) [.string (⟨#[101, 103, 112]⟩ : ByteArray)] from rfl) (Reps.one (show Kd.M Kd.string _ _ _ (⟨#[110, 111, 110, 101]⟩ : ByteArray) [.string (⟨#[110, 111, 110, 101]⟩ : ByteArray)] from rfl) (Reps.none _ _)))))
                intro v163 w25 ho26 hb hg_ hnew_
                clear hg_ hnew_
                (first | rw [← Ny162.out] at ho26 | (simp only [Int.reduceToNat] at ho26; rw [← Ny162.out] at ho26))
                have ap := Aside0.mk (Kd.R_lower ho26 (below_size (by repeat (first | (with_reducible first | exact HB.out | apply below_alloc | apply pw_below_drewN | apply below_drew1 | refine below_set ?_ af.out) | exact HB.out))))
                replace aa := Aside0.mk (blk_below (g := ab) (by (with_reducible repeat (first | refine blk_drewN ?_ _ | refine blk_drew ?_ | refine blk_alloc ?_ _)); exact aa.out) hb)
                replace HB := Aside0.mk (below_step (by repeat (first | (with_reducible first | exact HB.out | apply below_alloc | apply pw_below_drewN | apply below_drew1 | refine below_set ?_ af.out) | exact HB.out)) hb)
                clear hb ho26
                obtain ⟨Ao27, co27, eo27⟩ := Kd.R_slice ap.out
                subst eo27
                obtain ⟨ado27, fo27, _⟩ := Kd.at_string (Kd.R_reads' ap.out).2.2 0 (by decide) (by rw [Ny162.out]; simp)
                cases fo27
                refine hK.out _ _ ⟨.slice (some ado27) ad.length co27, ado27, m13_, (by rw [ha.out]; exact putSel_upk 8 hb_ rfl rfl rfl), (by (with_reducible repeat (first | refine blk_drewN ?_ _ | refine blk_drew ?_ | refine blk_alloc ?_ _)); exact aa.out), (by repeat (first | (with_reducible first | exact HB.out | apply below_alloc | apply pw_below_drewN | apply below_drew1 | refine below_set ?_ af.out) | exact HB.out)), fun _ => (by (with_reducible repeat (first | apply Kd.R_alloc | apply Kd.R_drewN | apply Kd.R_drew)); exact ap.out), fun _ => ⟨_, rfl⟩, fun h0_ => absurd ((hoff 13 (by kernel_rfl)).symm.trans h0_) (by decide)⟩
               refine steps_cons ?_ ?_
               ·rintro b a w' ⟨v163, adz_v163, m13_, ha, Q_BK158, Q_HB, Q_HO164, Q_HA_HO164, Q_X13_⟩ hb_ hon hoff
                refine ⟨_, rfl, fun K hK => ?_⟩
                have e21 : a.tmps[21]? = some (.pointer (some ⟨ab, 2, none⟩)) := by rw [ha]; exact (putSel_off rfl).trans rfl
                replace ha := Aside0.mk ha
                have aa := Aside0.mk Q_BK158
                have HB := Aside0.mk Q_HB
                have hc0_ : w'.cell? ⟨ab, 0, none⟩ = some (.int .i64 aj) := (blk_cell aa.out 0).trans rfl
                have hc1_ : w'.cell? ⟨ab, 1, none⟩ = some (.int .i64 ak) := (blk_cell aa.out 1).trans rfl
                have hc2_ : w'.cell? ⟨ab, 2, none⟩ = some (.int .i64 ac) := (blk_cell aa.out 2).trans rfl
                have hc3_ : w'.cell? ⟨ab, 3, none⟩ = some (.slice al ag.length am) := (blk_cell aa.out 3).trans rfl
                have hc4_ : w'.cell? ⟨ab, 4, none⟩ = some (.slice an ah.length ao) := (blk_cell aa.out 4).trans rfl
                have hc5_ : w'.cell? ⟨ab, 5, none⟩ = some (.int .i64 ai) := (blk_cell aa.out 5).trans rfl
                have hc6_ : w'.cell? ⟨ab, 6, none⟩ = some (.slice ar ae.length aq) := (blk_cell aa.out 6).trans rfl
                refine value_ (w1 := w') (v := .int .i64 ac) (by rfl) rfl ?_ ?_
                ·go_simp
                 (try simp only [i64_w])
                 try rfl
                refine hK.out _ _ ⟨v163, adz_v163, m13_, (by rw [ha.out]; exact putSel_upk 9 hb_ rfl rfl rfl), Q_BK158, Q_HB, Q_HO164, Q_HA_HO164, fun h0_ => absurd ((hoff 13 (by kernel_rfl)).symm.trans h0_) (by decide)⟩
               refine steps_cons ?_ ?_
               ·rintro b a w' ⟨v163, adz_v163, m13_, ha, Q_BK158, Q_HB, Q_HO164, Q_HA_HO164, Q_X13_⟩ hb_ hon hoff
                refine ⟨_, rfl, fun K hK => ?_⟩
                have e20 : a.tmps[20]? = some (v163) := by rw [ha]; exact putSel_on (e := (10, 20, v163)) 8 rfl rfl (hon 10 (by kernel_rfl)) rfl
                have e22 : a.tmps[22]? = some (.int .i64 ac) := by rw [ha]; exact putSel_on (e := (12, 22, .int .i64 ac)) 9 rfl rfl (hon 12 (by kernel_rfl)) rfl
                replace ha := Aside0.mk ha
                have aa := Aside0.mk Q_BK158
                have HB := Aside0.mk Q_HB
                have ap := Aside0.mk (Q_HO164 (hon 10 (by kernel_rfl)))
                have HA_HO164 := Aside0.mk (Q_HA_HO164 (hon 10 (by kernel_rfl)))
                obtain ⟨c_, hv_⟩ := HA_HO164.out
                rw [hv_] at e20
                refine value_ (w1 := w') (v := .pointer (some (adz_v163.add (ac).toNat))) (by rfl) rfl ?_ ?_
                ·go_simp
                 (try simp only [i64_w])
                 try rfl
                refine hK.out _ _ ⟨v163, adz_v163, (.pointer (some (adz_v163.add (ac).toNat))), (by rw [ha.out]; exact putSel_upk 10 hb_ rfl rfl rfl), Q_BK158, Q_HB, Q_HO164, Q_HA_HO164, fun _ => rfl⟩
               refine steps_cons ?_ ?_
               ·rintro b a w' ⟨v163, adz_v163, m13_, ha, Q_BK158, Q_HB, Q_HO164, Q_HA_HO164, Q_X13_⟩ hb_ hon hoff
                refine ⟨_, rfl, fun K hK => ?_⟩
                have e23 : a.tmps[23]? = some (m13_) := by rw [ha]; exact putSel_on (e := (13, 23, m13_)) 10 rfl rfl (hon 13 (by kernel_rfl)) rfl
                rw [Q_X13_ (hon 13 (by kernel_rfl))] at e23
                replace ha := Aside0.mk ha
                have aa := Aside0.mk Q_BK158
                have HB := Aside0.mk Q_HB
                have ap := Aside0.mk (Q_HO164 (hon 10 (by kernel_rfl)))
                have HA_HO164 := Aside0.mk (Q_HA_HO164 (hon 10 (by kernel_rfl)))
                obtain ⟨c_, hv_⟩ := HA_HO164.out
                have hF_ := ap.out
                rw [hv_] at hF_
                obtain ⟨ad_, ea_, hx_⟩ := Kd.at_string (Kd.R_reads' hF_).2.2 ac (of_eq_true pi165) (of_eq_true qi165)
                cases ea_
                refine value_ (w1 := w') (v := .string (rdOf ByteArray.empty ad ac)) (by rfl) rfl ?_ ?_
                ·go_simp
                 (try simp only [i64_w])
                 try rfl
                refine hK.out _ _ ⟨v163, adz_v163, m13_, (by rw [ha.out]; exact putSel_upk 11 hb_ rfl rfl rfl), Q_BK158, Q_HB, Q_HO164, Q_HA_HO164, Q_X13_⟩
               refine steps_cons ?_ ?_
               ·rintro b a w' ⟨v163, adz_v163, m13_, ha, Q_BK158, Q_HB, Q_HO164, Q_HA_HO164, Q_X13_⟩ hb_ hon hoff
                refine ⟨_, rfl, fun K hK => ?_⟩
                have e19 : a.tmps[19]? = some (.string (((((⟨#[112, 114, 101, 102, 32]⟩ : ByteArray) ++ t160) ++ (⟨#[32, 109, 101, 100, 32]⟩ : ByteArray)) ++ t161) ++ (⟨#[32, 111, 114, 105, 103, 105, 110, 32]⟩ : ByteArray))) := by rw [ha]; exact putSel_on (e := (9, 19, .string (((((⟨#[112, 114, 101, 102, 32]⟩ : ByteArray) ++ t160) ++ (⟨#[32, 109, 101, 100, 32]⟩ : ByteArray)) ++ t161) ++ (⟨#[32, 111, 114, 105, 103, 105, 110, 32]⟩ : ByteArray)))) 7 rfl rfl (hon 9 (by kernel_rfl)) rfl
                have e24 : a.tmps[24]? = some (.string (rdOf ByteArray.empty ad ac)) := by rw [ha]; exact putSel_on (e := (14, 24, .string (rdOf ByteArray.empty ad ac))) 11 rfl rfl (hon 14 (by kernel_rfl)) rfl
                replace ha := Aside0.mk ha
                have aa := Aside0.mk Q_BK158
                have HB := Aside0.mk Q_HB
                have ap := Aside0.mk (Q_HO164 (hon 10 (by kernel_rfl)))
                have HA_HO164 := Aside0.mk (Q_HA_HO164 (hon 10 (by kernel_rfl)))
                refine value_ (w1 := w') (v := .string ((((((⟨#[112, 114, 101, 102, 32]⟩ : ByteArray) ++ t160) ++ (⟨#[32, 109, 101, 100, 32]⟩ : ByteArray)) ++ t161) ++ (⟨#[32, 111, 114, 105, 103, 105, 110, 32]⟩ : ByteArray)) ++ (rdOf ByteArray.empty ad ac))) (by rfl) rfl ?_ ?_
                ·go_simp
                 (try simp only [i64_w])
                 try rfl
                refine hK.out _ _ ⟨v163, adz_v163, m13_, (by rw [ha.out]; exact putSel_upk 12 hb_ rfl rfl rfl), Q_BK158, Q_HB, Q_HO164, Q_HA_HO164, Q_X13_⟩
               refine steps_cons ?_ ?_
               ·rintro b a w' ⟨v163, adz_v163, m13_, ha, Q_BK158, Q_HB, Q_HO164, Q_HA_HO164, Q_X13_⟩ hb_ hon hoff
                refine ⟨_, rfl, fun K hK => ?_⟩
                have e25 : a.tmps[25]? = some (.string ((((((⟨#[112, 114, 101, 102, 32]⟩ : ByteArray) ++ t160) ++ (⟨#[32, 109, 101, 100, 32]⟩ : ByteArray)) ++ t161) ++ (⟨#[32, 111, 114, 105, 103, 105, 110, 32]⟩ : ByteArray)) ++ (rdOf ByteArray.empty ad ac))) := by rw [ha]; exact putSel_on (e := (15, 25, .string ((((((⟨#[112, 114, 101, 102, 32]⟩ : ByteArray) ++ t160) ++ (⟨#[32, 109, 101, 100, 32]⟩ : ByteArray)) ++ t161) ++ (⟨#[32, 111, 114, 105, 103, 105, 110, 32]⟩ : ByteArray)) ++ (rdOf ByteArray.empty ad ac)))) 12 rfl rfl (hon 15 (by kernel_rfl)) rfl
                replace ha := Aside0.mk ha
                have aa := Aside0.mk Q_BK158
                have HB := Aside0.mk Q_HB
                have ap := Aside0.mk (Q_HO164 (hon 10 (by kernel_rfl)))
                have HA_HO164 := Aside0.mk (Q_HA_HO164 (hon 10 (by kernel_rfl)))
                refine value_ (w1 := w') (v := .string (((((((⟨#[112, 114, 101, 102, 32]⟩ : ByteArray) ++ t160) ++ (⟨#[32, 109, 101, 100, 32]⟩ : ByteArray)) ++ t161) ++ (⟨#[32, 111, 114, 105, 103, 105, 110, 32]⟩ : ByteArray)) ++ (rdOf ByteArray.empty ad ac)) ++ (⟨#[32, 112, 97, 116, 104, 32, 91]⟩ : ByteArray))) (by rfl) rfl ?_ ?_
                ·go_simp
                 (try simp only [i64_w])
                 try rfl
                refine hK.out _ _ ⟨v163, adz_v163, m13_, (by rw [ha.out]; exact putSel_upk 13 hb_ rfl rfl rfl), Q_BK158, Q_HB, Q_HO164, Q_HA_HO164, Q_X13_⟩
               refine steps_cons ?_ ?_
               ·rintro b a w' ⟨v163, adz_v163, m13_, ha, Q_BK158, Q_HB, Q_HO164, Q_HA_HO164, Q_X13_⟩ hb_ hon hoff
                refine ⟨_, rfl, fun K hK => ?_⟩
                have e27 : a.tmps[27]? = some (.pointer (some ⟨ab, 3, none⟩)) := by rw [ha]; exact (putSel_off rfl).trans rfl
                replace ha := Aside0.mk ha
                have aa := Aside0.mk Q_BK158
                have HB := Aside0.mk Q_HB
                have hc0_ : w'.cell? ⟨ab, 0, none⟩ = some (.int .i64 aj) := (blk_cell aa.out 0).trans rfl
                have hc1_ : w'.cell? ⟨ab, 1, none⟩ = some (.int .i64 ak) := (blk_cell aa.out 1).trans rfl
                have hc2_ : w'.cell? ⟨ab, 2, none⟩ = some (.int .i64 ac) := (blk_cell aa.out 2).trans rfl
                have hc3_ : w'.cell? ⟨ab, 3, none⟩ = some (.slice al ag.length am) := (blk_cell aa.out 3).trans rfl
                have hc4_ : w'.cell? ⟨ab, 4, none⟩ = some (.slice an ah.length ao) := (blk_cell aa.out 4).trans rfl
                have hc5_ : w'.cell? ⟨ab, 5, none⟩ = some (.int .i64 ai) := (blk_cell aa.out 5).trans rfl
                have hc6_ : w'.cell? ⟨ab, 6, none⟩ = some (.slice ar ae.length aq) := (blk_cell aa.out 6).trans rfl
                refine value_ (w1 := w') (v := .slice al ag.length am) (by rfl) rfl ?_ ?_
                ·go_simp
                 (try simp only [i64_w])
                 try rfl
                refine hK.out _ _ ⟨v163, adz_v163, m13_, (by rw [ha.out]; exact putSel_upk 14 hb_ rfl rfl rfl), Q_BK158, Q_HB, Q_HO164, Q_HA_HO164, Q_X13_⟩
               refine steps_cons ?_ ?_
               ·rintro b a w' ⟨v163, adz_v163, m13_, ha, Q_BK158, Q_HB, Q_HO164, Q_HA_HO164, Q_X13_⟩ hb_ hon hoff
                refine ⟨_, rfl, fun K hK => ?_⟩
                have e28 : a.tmps[28]? = some (.slice al ag.length am) := by rw [ha]; exact putSel_on (e := (18, 28, .slice al ag.length am)) 14 rfl rfl (hon 18 (by kernel_rfl)) rfl
                replace ha := Aside0.mk ha
                have aa := Aside0.mk Q_BK158
                have HB := Aside0.mk Q_HB
                refine goes_ Try.func38 (by kernel_rfl) rfl #[.slice al ag.length am] (by rfl) rfl rfl (by first | (simp only [List.map_toArray, List.map_cons, List.map_nil, Act.eval, Array.getD_eq_getD_getElem?, Option.getD_some, e28]; done) | (simp only [List.map_toArray, List.map_cons, List.map_nil, Act.eval, Array.getD_eq_getD_getElem?, Option.getD_some, e28]; rfl)) ?_
                with_reducible refine (aspath_Text.calls k _ _ ag t166 _ ?side1 ?side2 A14.out).mono ?_
                (case side1 => repeat (first | exact (Kd.C_below HR0_3.out HB.out) | (with_reducible refine Kd.C_alloc ?_ _) | (with_reducible refine Kd.C_drewN ?_ _) | (with_reducible refine Kd.C_drew ?_)))
                (case side2 => exact HC0_3.out)
                rintro e w28 ⟨rfl, hb⟩
                refine ⟨_, rfl, ?_⟩
                have n0_ := Aside0.mk (blk_below (g := ab) (by (with_reducible repeat (first | refine blk_drewN ?_ _ | refine blk_drew ?_ | refine blk_alloc ?_ _)); exact aa.out) hb)
                have n1_ := Aside0.mk (below_step (by repeat (first | (with_reducible first | exact HB.out | apply below_alloc | apply pw_below_drewN | apply below_drew1 | refine below_set ?_ af.out) | exact HB.out)) hb)
                have z_HO164 := fun (h0_ : b 10 = true) => (show Kd.R Kd.string 9 w28 w.heap.size (fun _ => True) v163 ad from by first | exact (Kd.R_below (by (with_reducible repeat (first | apply Kd.R_alloc | apply Kd.R_drewN | apply Kd.R_drew)); exact (Q_HO164 h0_)) hb) | exact Kd.R_mono (Kd.R_below (by (with_reducible repeat (first | apply Kd.R_alloc | apply Kd.R_drewN | apply Kd.R_drew)); exact (Q_HO164 h0_)) hb) (fun _ h_ => by first | trivial | exact h_ | exact h_.1))
                clear aa
                clear HB
                have aa := n0_
                have HB := n1_
                clear n0_ n1_
                (try clear hb)
                (try clear ay)
                (try clear hk)
                (try clear hi)
                refine hK.out _ _ ⟨v163, adz_v163, m13_, (by rw [ha.out]; exact putSel_upk 15 hb_ rfl rfl rfl), (by (with_reducible repeat (first | refine blk_drewN ?_ _ | refine blk_drew ?_ | refine blk_alloc ?_ _)); exact aa.out), (by repeat (first | (with_reducible first | exact HB.out | apply below_alloc | apply pw_below_drewN | apply below_drew1 | refine below_set ?_ af.out) | exact HB.out)), z_HO164, Q_HA_HO164, Q_X13_⟩
               refine steps_cons ?_ ?_
               ·rintro b a w' ⟨v163, adz_v163, m13_, ha, Q_BK158, Q_HB, Q_HO164, Q_HA_HO164, Q_X13_⟩ hb_ hon hoff
                refine ⟨_, rfl, fun K hK => ?_⟩
                have e26 : a.tmps[26]? = some (.string (((((((⟨#[112, 114, 101, 102, 32]⟩ : ByteArray) ++ t160) ++ (⟨#[32, 109, 101, 100, 32]⟩ : ByteArray)) ++ t161) ++ (⟨#[32, 111, 114, 105, 103, 105, 110, 32]⟩ : ByteArray)) ++ (rdOf ByteArray.empty ad ac)) ++ (⟨#[32, 112, 97, 116, 104, 32, 91]⟩ : ByteArray))) := by rw [ha]; exact putSel_on (e := (16, 26, .string (((((((⟨#[112, 114, 101, 102, 32]⟩ : ByteArray) ++ t160) ++ (⟨#[32, 109, 101, 100, 32]⟩ : ByteArray)) ++ t161) ++ (⟨#[32, 111, 114, 105, 103, 105, 110, 32]⟩ : ByteArray)) ++ (rdOf ByteArray.empty ad ac)) ++ (⟨#[32, 112, 97, 116, 104, 32, 91]⟩ : ByteArray)))) 13 rfl rfl (hon 16 (by kernel_rfl)) rfl
                have e29 : a.tmps[29]? = some (.string t166) := by rw [ha]; exact putSel_on (e := (19, 29, .string t166)) 15 rfl rfl (hon 19 (by kernel_rfl)) rfl
                replace ha := Aside0.mk ha
                have aa := Aside0.mk Q_BK158
                have HB := Aside0.mk Q_HB
                have ap := Aside0.mk (Q_HO164 (hon 10 (by kernel_rfl)))
                have HA_HO164 := Aside0.mk (Q_HA_HO164 (hon 10 (by kernel_rfl)))
                refine value_ (w1 := w') (v := .string ((((((((⟨#[112, 114, 101, 102, 32]⟩ : ByteArray) ++ t160) ++ (⟨#[32, 109, 101, 100, 32]⟩ : ByteArray)) ++ t161) ++ (⟨#[32, 111, 114, 105, 103, 105, 110, 32]⟩ : ByteArray)) ++ (rdOf ByteArray.empty ad ac)) ++ (⟨#[32, 112, 97, 116, 104, 32, 91]⟩ : ByteArray)) ++ t166)) (by rfl) rfl ?_ ?_
                ·go_simp
                 (try simp only [i64_w])
                 try rfl
                refine hK.out _ _ ⟨v163, adz_v163, m13_, (by rw [ha.out]; exact putSel_upk 16 hb_ rfl rfl rfl), Q_BK158, Q_HB, Q_HO164, Q_HA_HO164, Q_X13_⟩
               refine steps_cons ?_ ?_
               ·rintro b a w' ⟨v163, adz_v163, m13_, ha, Q_BK158, Q_HB, Q_HO164, Q_HA_HO164, Q_X13_⟩ hb_ hon hoff
                refine ⟨_, rfl, fun K hK => ?_⟩
                have e30 : a.tmps[30]? = some (.string ((((((((⟨#[112, 114, 101, 102, 32]⟩ : ByteArray) ++ t160) ++ (⟨#[32, 109, 101, 100, 32]⟩ : ByteArray)) ++ t161) ++ (⟨#[32, 111, 114, 105, 103, 105, 110, 32]⟩ : ByteArray)) ++ (rdOf ByteArray.empty ad ac)) ++ (⟨#[32, 112, 97, 116, 104, 32, 91]⟩ : ByteArray)) ++ t166)) := by rw [ha]; exact putSel_on (e := (20, 30, .string ((((((((⟨#[112, 114, 101, 102, 32]⟩ : ByteArray) ++ t160) ++ (⟨#[32, 109, 101, 100, 32]⟩ : ByteArray)) ++ t161) ++ (⟨#[32, 111, 114, 105, 103, 105, 110, 32]⟩ : ByteArray)) ++ (rdOf ByteArray.empty ad ac)) ++ (⟨#[32, 112, 97, 116, 104, 32, 91]⟩ : ByteArray)) ++ t166))) 16 rfl rfl (hon 20 (by kernel_rfl)) rfl
                replace ha := Aside0.mk ha
                have aa := Aside0.mk Q_BK158
                have HB := Aside0.mk Q_HB
                have ap := Aside0.mk (Q_HO164 (hon 10 (by kernel_rfl)))
                have HA_HO164 := Aside0.mk (Q_HA_HO164 (hon 10 (by kernel_rfl)))
                refine value_ (w1 := w') (v := .string (((((((((⟨#[112, 114, 101, 102, 32]⟩ : ByteArray) ++ t160) ++ (⟨#[32, 109, 101, 100, 32]⟩ : ByteArray)) ++ t161) ++ (⟨#[32, 111, 114, 105, 103, 105, 110, 32]⟩ : ByteArray)) ++ (rdOf ByteArray.empty ad ac)) ++ (⟨#[32, 112, 97, 116, 104, 32, 91]⟩ : ByteArray)) ++ t166) ++ (⟨#[93, 32, 99, 111, 109, 109, 115, 32, 91]⟩ : ByteArray))) (by rfl) rfl ?_ ?_
                ·go_simp
                 (try simp only [i64_w])
                 try rfl
                refine hK.out _ _ ⟨v163, adz_v163, m13_, (by rw [ha.out]; exact putSel_upk 17 hb_ rfl rfl rfl), Q_BK158, Q_HB, Q_HO164, Q_HA_HO164, Q_X13_⟩
               refine steps_cons ?_ ?_
               ·rintro b a w' ⟨v163, adz_v163, m13_, ha, Q_BK158, Q_HB, Q_HO164, Q_HA_HO164, Q_X13_⟩ hb_ hon hoff
                refine ⟨_, rfl, fun K hK => ?_⟩
                have e32 : a.tmps[32]? = some (.pointer (some ⟨ab, 4, none⟩)) := by rw [ha]; exact (putSel_off rfl).trans rfl
                replace ha := Aside0.mk ha
                have aa := Aside0.mk Q_BK158
                have HB := Aside0.mk Q_HB
                have hc0_ : w'.cell? ⟨ab, 0, none⟩ = some (.int .i64 aj) := (blk_cell aa.out 0).trans rfl
                have hc1_ : w'.cell? ⟨ab, 1, none⟩ = some (.int .i64 ak) := (blk_cell aa.out 1).trans rfl
                have hc2_ : w'.cell? ⟨ab, 2, none⟩ = some (.int .i64 ac) := (blk_cell aa.out 2).trans rfl
                have hc3_ : w'.cell? ⟨ab, 3, none⟩ = some (.slice al ag.length am) := (blk_cell aa.out 3).trans rfl
                have hc4_ : w'.cell? ⟨ab, 4, none⟩ = some (.slice an ah.length ao) := (blk_cell aa.out 4).trans rfl
                have hc5_ : w'.cell? ⟨ab, 5, none⟩ = some (.int .i64 ai) := (blk_cell aa.out 5).trans rfl
                have hc6_ : w'.cell? ⟨ab, 6, none⟩ = some (.slice ar ae.length aq) := (blk_cell aa.out 6).trans rfl
                refine value_ (w1 := w') (v := .slice an ah.length ao) (by rfl) rfl ?_ ?_
                ·go_simp
                 (try simp only [i64_w])
                 try rfl
                refine hK.out _ _ ⟨v163, adz_v163, m13_, (by rw [ha.out]; exact putSel_upk 18 hb_ rfl rfl rfl), Q_BK158, Q_HB, Q_HO164, Q_HA_HO164, Q_X13_⟩
               refine steps_cons ?_ ?_
               ·rintro b a w' ⟨v163, adz_v163, m13_, ha, Q_BK158, Q_HB, Q_HO164, Q_HA_HO164, Q_X13_⟩ hb_ hon hoff
                refine ⟨_, rfl, fun K hK => ?_⟩
                have e33 : a.tmps[33]? = some (.slice an ah.length ao) := by rw [ha]; exact putSel_on (e := (23, 33, .slice an ah.length ao)) 18 rfl rfl (hon 23 (by kernel_rfl)) rfl
                replace ha := Aside0.mk ha
                have aa := Aside0.mk Q_BK158
                have HB := Aside0.mk Q_HB
                refine goes_ Try.func39 (by kernel_rfl) rfl #[.slice an ah.length ao] (by rfl) rfl rfl (by first | (simp only [List.map_toArray, List.map_cons, List.map_nil, Act.eval, Array.getD_eq_getD_getElem?, Option.getD_some, e33]; done) | (simp only [List.map_toArray, List.map_cons, List.map_nil, Act.eval, Array.getD_eq_getD_getElem?, Option.getD_some, e33]; rfl)) ?_
                with_reducible refine (comm_Texts.calls k _ _ ah t167 _ ?side1 ?side2 A17.out).mono ?_
                (case side1 => repeat (first | exact (Kd.C_below HR0_4.out HB.out) | (with_reducible refine Kd.C_alloc ?_ _) | (with_reducible refine Kd.C_drewN ?_ _) | (with_reducible refine Kd.C_drew ?_)))
                (case side2 => exact HC0_4.out)
                rintro e w29 ⟨rfl, hb⟩
                refine ⟨_, rfl, ?_⟩
                have n0_ := Aside0.mk (blk_below (g := ab) (by (with_reducible repeat (first | refine blk_drewN ?_ _ | refine blk_drew ?_ | refine blk_alloc ?_ _)); exact aa.out) hb)
                have n1_ := Aside0.mk (below_step (by repeat (first | (with_reducible first | exact HB.out | apply below_alloc | apply pw_below_drewN | apply below_drew1 | refine below_set ?_ af.out) | exact HB.out)) hb)
                have z_HO164 := fun (h0_ : b 10 = true) => (show Kd.R Kd.string 9 w29 w.heap.size (fun _ => True) v163 ad from by first | exact (Kd.R_below (by (with_reducible repeat (first | apply Kd.R_alloc | apply Kd.R_drewN | apply Kd.R_drew)); exact (Q_HO164 h0_)) hb) | exact Kd.R_mono (Kd.R_below (by (with_reducible repeat (first | apply Kd.R_alloc | apply Kd.R_drewN | apply Kd.R_drew)); exact (Q_HO164 h0_)) hb) (fun _ h_ => by first | trivial | exact h_ | exact h_.1))
                clear aa
                clear HB
                have aa := n0_
                have HB := n1_
                clear n0_ n1_
                (try clear hb)
                (try clear ay)
                (try clear hk)
                (try clear hi)
                refine hK.out _ _ ⟨v163, adz_v163, m13_, (by rw [ha.out]; exact putSel_upk 19 hb_ rfl rfl rfl), (by (with_reducible repeat (first | refine blk_drewN ?_ _ | refine blk_drew ?_ | refine blk_alloc ?_ _)); exact aa.out), (by repeat (first | (with_reducible first | exact HB.out | apply below_alloc | apply pw_below_drewN | apply below_drew1 | refine below_set ?_ af.out) | exact HB.out)), z_HO164, Q_HA_HO164, Q_X13_⟩
               refine steps_cons ?_ ?_
               ·rintro b a w' ⟨v163, adz_v163, m13_, ha, Q_BK158, Q_HB, Q_HO164, Q_HA_HO164, Q_X13_⟩ hb_ hon hoff
                refine ⟨_, rfl, fun K hK => ?_⟩
                have e31 : a.tmps[31]? = some (.string (((((((((⟨#[112, 114, 101, 102, 32]⟩ : ByteArray) ++ t160) ++ (⟨#[32, 109, 101, 100, 32]⟩ : ByteArray)) ++ t161) ++ (⟨#[32, 111, 114, 105, 103, 105, 110, 32]⟩ : ByteArray)) ++ (rdOf ByteArray.empty ad ac)) ++ (⟨#[32, 112, 97, 116, 104, 32, 91]⟩ : ByteArray)) ++ t166) ++ (⟨#[93, 32, 99, 111, 109, 109, 115, 32, 91]⟩ : ByteArray))) := by rw [ha]; exact putSel_on (e := (21, 31, .string (((((((((⟨#[112, 114, 101, 102, 32]⟩ : ByteArray) ++ t160) ++ (⟨#[32, 109, 101, 100, 32]⟩ : ByteArray)) ++ t161) ++ (⟨#[32, 111, 114, 105, 103, 105, 110, 32]⟩ : ByteArray)) ++ (rdOf ByteArray.empty ad ac)) ++ (⟨#[32, 112, 97, 116, 104, 32, 91]⟩ : ByteArray)) ++ t166) ++ (⟨#[93, 32, 99, 111, 109, 109, 115, 32, 91]⟩ : ByteArray)))) 17 rfl rfl (hon 21 (by kernel_rfl)) rfl
                have e34 : a.tmps[34]? = some (.string t167) := by rw [ha]; exact putSel_on (e := (24, 34, .string t167)) 19 rfl rfl (hon 24 (by kernel_rfl)) rfl
                replace ha := Aside0.mk ha
                have aa := Aside0.mk Q_BK158
                have HB := Aside0.mk Q_HB
                have ap := Aside0.mk (Q_HO164 (hon 10 (by kernel_rfl)))
                have HA_HO164 := Aside0.mk (Q_HA_HO164 (hon 10 (by kernel_rfl)))
                refine value_ (w1 := w') (v := .string ((((((((((⟨#[112, 114, 101, 102, 32]⟩ : ByteArray) ++ t160) ++ (⟨#[32, 109, 101, 100, 32]⟩ : ByteArray)) ++ t161) ++ (⟨#[32, 111, 114, 105, 103, 105, 110, 32]⟩ : ByteArray)) ++ (rdOf ByteArray.empty ad ac)) ++ (⟨#[32, 112, 97, 116, 104, 32, 91]⟩ : ByteArray)) ++ t166) ++ (⟨#[93, 32, 99, 111, 109, 109, 115, 32, 91]⟩ : ByteArray)) ++ t167)) (by rfl) rfl ?_ ?_
                ·go_simp
                 (try simp only [i64_w])
                 try rfl
                refine hK.out _ _ ⟨v163, adz_v163, m13_, (by rw [ha.out]; exact putSel_upk 20 hb_ rfl rfl rfl), Q_BK158, Q_HB, Q_HO164, Q_HA_HO164, Q_X13_⟩
               refine steps_cons ?_ ?_
               ·rintro b a w' ⟨v163, adz_v163, m13_, ha, Q_BK158, Q_HB, Q_HO164, Q_HA_HO164, Q_X13_⟩ hb_ hon hoff
                refine ⟨_, rfl, fun K hK => ?_⟩
                have e35 : a.tmps[35]? = some (.string ((((((((((⟨#[112, 114, 101, 102, 32]⟩ : ByteArray) ++ t160) ++ (⟨#[32, 109, 101, 100, 32]⟩ : ByteArray)) ++ t161) ++ (⟨#[32, 111, 114, 105, 103, 105, 110, 32]⟩ : ByteArray)) ++ (rdOf ByteArray.empty ad ac)) ++ (⟨#[32, 112, 97, 116, 104, 32, 91]⟩ : ByteArray)) ++ t166) ++ (⟨#[93, 32, 99, 111, 109, 109, 115, 32, 91]⟩ : ByteArray)) ++ t167)) := by rw [ha]; exact putSel_on (e := (25, 35, .string ((((((((((⟨#[112, 114, 101, 102, 32]⟩ : ByteArray) ++ t160) ++ (⟨#[32, 109, 101, 100, 32]⟩ : ByteArray)) ++ t161) ++ (⟨#[32, 111, 114, 105, 103, 105, 110, 32]⟩ : ByteArray)) ++ (rdOf ByteArray.empty ad ac)) ++ (⟨#[32, 112, 97, 116, 104, 32, 91]⟩ : ByteArray)) ++ t166) ++ (⟨#[93, 32, 99, 111, 109, 109, 115, 32, 91]⟩ : ByteArray)) ++ t167))) 20 rfl rfl (hon 25 (by kernel_rfl)) rfl
                replace ha := Aside0.mk ha
                have aa := Aside0.mk Q_BK158
                have HB := Aside0.mk Q_HB
                have ap := Aside0.mk (Q_HO164 (hon 10 (by kernel_rfl)))
                have HA_HO164 := Aside0.mk (Q_HA_HO164 (hon 10 (by kernel_rfl)))
                refine value_ (w1 := w') (v := .string (((((((((((⟨#[112, 114, 101, 102, 32]⟩ : ByteArray) ++ t160) ++ (⟨#[32, 109, 101, 100, 32]⟩ : ByteArray)) ++ t161) ++ (⟨#[32, 111, 114, 105, 103, 105, 110, 32]⟩ : ByteArray)) ++ (rdOf ByteArray.empty ad ac)) ++ (⟨#[32, 112, 97, 116, 104, 32, 91]⟩ : ByteArray)) ++ t166) ++ (⟨#[93, 32, 99, 111, 109, 109, 115, 32, 91]⟩ : ByteArray)) ++ t167) ++ (⟨#[93]⟩ : ByteArray))) (by rfl) rfl ?_ ?_
                ·go_simp
                 (try simp only [i64_w])
                 try rfl
                refine hK.out _ _ ⟨v163, adz_v163, m13_, (by rw [ha.out]; exact putSel_upk 21 hb_ rfl rfl rfl), Q_BK158, Q_HB, Q_HO164, Q_HA_HO164, Q_X13_⟩
               refine steps_cons ?_ ?_
               ·rintro b a w' ⟨v163, adz_v163, m13_, ha, Q_BK158, Q_HB, Q_HO164, Q_HA_HO164, Q_X13_⟩ hb_ hon hoff
                refine ⟨_, rfl, fun K hK => ?_⟩
                have e36 : a.tmps[36]? = some (.string (((((((((((⟨#[112, 114, 101, 102, 32]⟩ : ByteArray) ++ t160) ++ (⟨#[32, 109, 101, 100, 32]⟩ : ByteArray)) ++ t161) ++ (⟨#[32, 111, 114, 105, 103, 105, 110, 32]⟩ : ByteArray)) ++ (rdOf ByteArray.empty ad ac)) ++ (⟨#[32, 112, 97, 116, 104, 32, 91]⟩ : ByteArray)) ++ t166) ++ (⟨#[93, 32, 99, 111, 109, 109, 115, 32, 91]⟩ : ByteArray)) ++ t167) ++ (⟨#[93]⟩ : ByteArray))) := by rw [ha]; exact putSel_on (e := (26, 36, .string (((((((((((⟨#[112, 114, 101, 102, 32]⟩ : ByteArray) ++ t160) ++ (⟨#[32, 109, 101, 100, 32]⟩ : ByteArray)) ++ t161) ++ (⟨#[32, 111, 114, 105, 103, 105, 110, 32]⟩ : ByteArray)) ++ (rdOf ByteArray.empty ad ac)) ++ (⟨#[32, 112, 97, 116, 104, 32, 91]⟩ : ByteArray)) ++ t166) ++ (⟨#[93, 32, 99, 111, 109, 109, 115, 32, 91]⟩ : ByteArray)) ++ t167) ++ (⟨#[93]⟩ : ByteArray)))) 21 rfl rfl (hon 26 (by kernel_rfl)) rfl
                replace ha := Aside0.mk ha
                have aa := Aside0.mk Q_BK158
                have HB := Aside0.mk Q_HB
                have ap := Aside0.mk (Q_HO164 (hon 10 (by kernel_rfl)))
                have HA_HO164 := Aside0.mk (Q_HA_HO164 (hon 10 (by kernel_rfl)))
                refine value_ (w1 := w') (v := .string (((((((((((⟨#[112, 114, 101, 102, 32]⟩ : ByteArray) ++ t160) ++ (⟨#[32, 109, 101, 100, 32]⟩ : ByteArray)) ++ t161) ++ (⟨#[32, 111, 114, 105, 103, 105, 110, 32]⟩ : ByteArray)) ++ (rdOf ByteArray.empty ad ac)) ++ (⟨#[32, 112, 97, 116, 104, 32, 91]⟩ : ByteArray)) ++ t166) ++ (⟨#[93, 32, 99, 111, 109, 109, 115, 32, 91]⟩ : ByteArray)) ++ t167) ++ (⟨#[93]⟩ : ByteArray))) (by rfl) rfl ?_ ?_
                ·go_simp
                 (try simp only [i64_w])
                 try rfl
                refine hK.out _ _ ⟨v163, adz_v163, m13_, (by rw [ha.out]; exact putSel_upk 22 hb_ rfl rfl rfl), Q_BK158, Q_HB, Q_HO164, Q_HA_HO164, Q_X13_⟩
               exact steps_nil
              rintro b a w32 hall ⟨v163, adz_v163, m13_, ha, Q_BK158, Q_HB, Q_HO164, Q_HA_HO164, Q_X13_⟩
              clear aa HB
              have hb1_ := hall 1 (by kernel_rfl)
              have hb2_ := hall 2 (by kernel_rfl)
              have hb3_ := hall 3 (by kernel_rfl)
              have hb4_ := hall 4 (by kernel_rfl)
              have hb6_ := hall 6 (by kernel_rfl)
              have hb7_ := hall 7 (by kernel_rfl)
              have hb8_ := hall 8 (by kernel_rfl)
              have hb9_ := hall 9 (by kernel_rfl)
              have hb10_ := hall 10 (by kernel_rfl)
              have hb12_ := hall 12 (by kernel_rfl)
              have hb13_ := hall 13 (by kernel_rfl)
              have hb14_ := hall 14 (by kernel_rfl)
              have hb15_ := hall 15 (by kernel_rfl)
              have hb16_ := hall 16 (by kernel_rfl)
              have hb18_ := hall 18 (by kernel_rfl)
              have hb19_ := hall 19 (by kernel_rfl)
              have hb20_ := hall 20 (by kernel_rfl)
              have hb21_ := hall 21 (by kernel_rfl)
              have hb23_ := hall 23 (by kernel_rfl)
              have hb24_ := hall 24 (by kernel_rfl)
              have hb25_ := hall 25 (by kernel_rfl)
              have hb26_ := hall 26 (by kernel_rfl)
              have hb27_ := hall 27 (by kernel_rfl)
              subst ha
              obtain rfl := Q_X13_ hb13_
              simp only [putSel, hb1_, hb2_, hb3_, hb4_, hb6_, hb7_, hb8_, hb9_, hb10_, hb12_, hb13_, hb14_, hb15_, hb16_, hb18_, hb19_, hb20_, hb21_, hb23_, hb24_, hb25_, hb26_, hb27_, if_true, Act.put, List.setIfInBounds_toArray, List.set_cons_zero, List.set_cons_succ]
              have aa := Aside0.mk Q_BK158
              clear Q_BK158
              have HB := Aside0.mk Q_HB
              clear Q_HB
              have ap := Aside0.mk (Q_HO164 hb10_)
              clear Q_HO164
              have HA_HO164 := Aside0.mk (Q_HA_HO164 hb10_)
              clear Q_HA_HO164
              clear hall hb1_ hb2_ hb3_ hb4_ hb6_ hb7_ hb8_ hb9_ hb10_ hb12_ hb13_ hb14_ hb15_ hb16_ hb18_ hb19_ hb20_ hb21_ hb23_ hb24_ hb25_ hb26_ hb27_
              obtain ⟨co33, eo33⟩ := HA_HO164.out
              clear HA_HO164
              subst eo33
              have hcz34_0 : w32.cell? ⟨ab, 0, none⟩ = some (.int .i64 aj) := (blk_cell aa.out 0).trans rfl
              have hcz34_1 : w32.cell? ⟨ab, 1, none⟩ = some (.int .i64 ak) := (blk_cell aa.out 1).trans rfl
              have hcz34_2 : w32.cell? ⟨ab, 2, none⟩ = some (.int .i64 ac) := (blk_cell aa.out 2).trans rfl
              have hcz34_3 : w32.cell? ⟨ab, 3, none⟩ = some (.slice al ag.length am) := (blk_cell aa.out 3).trans rfl
              have hcz34_4 : w32.cell? ⟨ab, 4, none⟩ = some (.slice an ah.length ao) := (blk_cell aa.out 4).trans rfl
              have hcz34_5 : w32.cell? ⟨ab, 5, none⟩ = some (.int .i64 ai) := (blk_cell aa.out 5).trans rfl
              have hcz34_6 : w32.cell? ⟨ab, 6, none⟩ = some (.slice ar ae.length aq) := (blk_cell aa.out 6).trans rfl
              have hfz34_0 := blk_frozen aa.out 0
              have hfz34_1 := blk_frozen aa.out 1
              have hfz34_2 := blk_frozen aa.out 2
              have hfz34_3 := blk_frozen aa.out 3
              have hfz34_4 := blk_frozen aa.out 4
              have hfz34_5 := blk_frozen aa.out 5
              have hfz34_6 := blk_frozen aa.out 6
              go_upto_if 39 with (fail)
              go_cut [3] (fun v3 wc => ∃ (kq : Nat) (x3_19 : ByteArray), v3 = .string x3_19 ∧ Aside0 (attr_Text.j0 kq x3_19 aj ak ac ag ah ai ae = some r) ∧ Aside0 (kq ≤ k) ∧ Aside0 (wc.heap[ab]? = some (.cells #[.int .i64 aj, .int .i64 ak, .int .i64 ac, (.slice al ag.length am), (.slice an ah.length ao), .int .i64 ai, (.slice ar ae.length aq)] 30 (0, 0))) ∧ Aside0 (Below w.heap.size w wc))
              case first =>
               have H := HC20.out
               clear HC20
               by_cases az : ai > 0
               ·rw [if_pos az] at H
                have c35b0 : decide (0 < ai) = true := decide_eq_true az
                clear az
                (first | rw [c35b0] | (simp only [i64_w, i32_w]; rw [c35b0]) | skip)
                replace H := Option.bind_eq_some_iff.mp H
                obtain ⟨t168, A360, H⟩ := H
                (try dsimp only at H)
                have A36 := Aside0.mk A360
                clear A360
                by_cases c37 : 6 + t168.size ≤ 9223372036854775807
                ·rw [if_pos c37] at H
                 have c37b0 := eq_true c37
                 have c37b1 : decide (6 + t168.size ≤ 9223372036854775807) = true := decide_eq_true c37
                 try have c37b2 : (9223372036854775807 < 6 + t168.size) = False := eq_false (Nat.not_lt.2 c37)
                 by_cases a7 : (((((((((((⟨#[112, 114, 101, 102, 32]⟩ : ByteArray) ++ t160) ++ (⟨#[32, 109, 101, 100, 32]⟩ : ByteArray)) ++ t161) ++ (⟨#[32, 111, 114, 105, 103, 105, 110, 32]⟩ : ByteArray)) ++ (rdOf ByteArray.empty ad ac)) ++ (⟨#[32, 112, 97, 116, 104, 32, 91]⟩ : ByteArray)) ++ t166) ++ (⟨#[93, 32, 99, 111, 109, 109, 115, 32, 91]⟩ : ByteArray)) ++ t167) ++ (⟨#[93]⟩ : ByteArray)).size + ((⟨#[32, 102, 114, 111, 109, 32]⟩ : ByteArray) ++ t168).size ≤ 9223372036854775807
                 ·rw [if_pos a7] at H
                  have c38b0 := eq_true a7
                  have c38b1 : decide ((((((((((((⟨#[112, 114, 101, 102, 32]⟩ : ByteArray) ++ t160) ++ (⟨#[32, 109, 101, 100, 32]⟩ : ByteArray)) ++ t161) ++ (⟨#[32, 111, 114, 105, 103, 105, 110, 32]⟩ : ByteArray)) ++ (rdOf ByteArray.empty ad ac)) ++ (⟨#[32, 112, 97, 116, 104, 32, 91]⟩ : ByteArray)) ++ t166) ++ (⟨#[93, 32, 99, 111, 109, 109, 115, 32, 91]⟩ : ByteArray)) ++ t167) ++ (⟨#[93]⟩ : ByteArray)).size + ((⟨#[32, 102, 114, 111, 109, 32]⟩ : ByteArray) ++ t168).size ≤ 9223372036854775807) = true := decide_eq_true a7
                  try have c38b2 : (9223372036854775807 < (((((((((((⟨#[112, 114, 101, 102, 32]⟩ : ByteArray) ++ t160) ++ (⟨#[32, 109, 101, 100, 32]⟩ : ByteArray)) ++ t161) ++ (⟨#[32, 111, 114, 105, 103, 105, 110, 32]⟩ : ByteArray)) ++ (rdOf ByteArray.empty ad ac)) ++ (⟨#[32, 112, 97, 116, 104, 32, 91]⟩ : ByteArray)) ++ t166) ++ (⟨#[93, 32, 99, 111, 109, 109, 115, 32, 91]⟩ : ByteArray)) ++ t167) ++ (⟨#[93]⟩ : ByteArray)).size + ((⟨#[32, 102, 114, 111, 109, 32]⟩ : ByteArray) ++ t168).size) = False := eq_false (Nat.not_lt.2 a7)
                  try have c38b3 : (9223372036854775807 < 5 + t160.size + 5 + t161.size + 8 + ((rdOf ByteArray.empty ad ac)).size + 7 + t166.size + 9 + t167.size + 1 + (6 + t168.size)) = False := eq_false (Nat.not_lt.2 (by have h_ := a7; simp only [ByteArray.size_append] at h_; exact h_))
                  have H' := Aside0.mk H
                  clear H
                  have hcz39_0 : w32.cell? ⟨ab, 0, none⟩ = some (.int .i64 aj) := (blk_cell aa.out 0).trans rfl
                  have hcz39_1 : w32.cell? ⟨ab, 1, none⟩ = some (.int .i64 ak) := (blk_cell aa.out 1).trans rfl
                  have hcz39_2 : w32.cell? ⟨ab, 2, none⟩ = some (.int .i64 ac) := (blk_cell aa.out 2).trans rfl
                  have hcz39_3 : w32.cell? ⟨ab, 3, none⟩ = some (.slice al ag.length am) := (blk_cell aa.out 3).trans rfl
                  have hcz39_4 : w32.cell? ⟨ab, 4, none⟩ = some (.slice an ah.length ao) := (blk_cell aa.out 4).trans rfl
                  have hcz39_5 : w32.cell? ⟨ab, 5, none⟩ = some (.int .i64 ai) := (blk_cell aa.out 5).trans rfl
                  have hcz39_6 : w32.cell? ⟨ab, 6, none⟩ = some (.slice ar ae.length aq) := (blk_cell aa.out 6).trans rfl
                  have hfz39_0 := blk_frozen aa.out 0
                  have hfz39_1 := blk_frozen aa.out 1
                  have hfz39_2 := blk_frozen aa.out 2
                  have hfz39_3 := blk_frozen aa.out 3
                  have hfz39_4 := blk_frozen aa.out 4
                  have hfz39_5 := blk_frozen aa.out 5
                  have hfz39_6 := blk_frozen aa.out 6
                  go_wp2_with (first | ((with_reducible refine gate_callee (f := 37) rfl ?_); refine goesL_ (some 43) rfl rfl Try.func37 (by kernel_rfl) rfl #[.int .i64 ai] rfl (by (try simp only [List.map_toArray, List.map_cons, List.map_nil]); first | done | rfl) ?_; (with_reducible refine (attr_digits.calls ai t168 _ A36.out).mono ?_); rintro e w40 ⟨rfl, hb⟩; refine ⟨_, rfl, ?_⟩; replace ap := Aside0.mk (Kd.R_below (by (with_reducible repeat (first | apply Kd.R_alloc | apply Kd.R_drewN | apply Kd.R_drew)); exact ap.out) hb); replace aa := Aside0.mk (blk_below (g := ab) (by (with_reducible repeat (first | refine blk_drewN ?_ _ | refine blk_drew ?_ | refine blk_alloc ?_ _)); exact aa.out) hb); replace HB := Aside0.mk (below_step (by repeat (first | (with_reducible first | exact HB.out | apply below_alloc | apply pw_below_drewN | apply below_drew1 | refine below_set ?_ af.out) | exact HB.out)) hb); (try clear hb); (try clear ay); (try clear hk); (try clear hi)))
                  go_meet
                  case rel => exact ⟨_, ((((((((((((⟨#[112, 114, 101, 102, 32]⟩ : ByteArray) ++ t160) ++ (⟨#[32, 109, 101, 100, 32]⟩ : ByteArray)) ++ t161) ++ (⟨#[32, 111, 114, 105, 103, 105, 110, 32]⟩ : ByteArray)) ++ (rdOf ByteArray.empty ad ac)) ++ (⟨#[32, 112, 97, 116, 104, 32, 91]⟩ : ByteArray)) ++ t166) ++ (⟨#[93, 32, 99, 111, 109, 109, 115, 32, 91]⟩ : ByteArray)) ++ t167) ++ (⟨#[93]⟩ : ByteArray)) ++ ((⟨#[32, 102, 114, 111, 109, 32]⟩ : ByteArray) ++ t168)), (by first | rfl | (simp; done) | (simp [*]; done)), H', ⟨by first | omega | exact Nat.le_refl _⟩, ⟨by (with_reducible repeat (first | refine blk_drewN ?_ _ | refine blk_drew ?_ | refine blk_alloc ?_ _)); exact aa.out⟩, ⟨by repeat (first | (with_reducible first | exact HB.out | apply below_alloc | apply pw_below_drewN | apply below_drew1 | refine below_set ?_ af.out) | exact HB.out)⟩⟩
                 ·rw [if_neg a7] at H
                  exact absurd H (by simp)
                ·rw [if_neg c37] at H
                 exact absurd H (by simp)
               ·rw [if_neg az] at H
                have c35b0 : decide (0 < ai) = false := decide_eq_false az
                clear az
                (first | rw [c35b0] | (simp only [i64_w, i32_w]; rw [c35b0]) | skip)
                have H' := Aside0.mk H
                clear H
                go_wp2
                go_meet
                case rel => exact ⟨_, (((((((((((⟨#[112, 114, 101, 102, 32]⟩ : ByteArray) ++ t160) ++ (⟨#[32, 109, 101, 100, 32]⟩ : ByteArray)) ++ t161) ++ (⟨#[32, 111, 114, 105, 103, 105, 110, 32]⟩ : ByteArray)) ++ (rdOf ByteArray.empty ad ac)) ++ (⟨#[32, 112, 97, 116, 104, 32, 91]⟩ : ByteArray)) ++ t166) ++ (⟨#[93, 32, 99, 111, 109, 109, 115, 32, 91]⟩ : ByteArray)) ++ t167) ++ (⟨#[93]⟩ : ByteArray)), (by first | rfl | (simp; done) | (simp [*]; done)), H', ⟨by first | omega | exact Nat.le_refl _⟩, ⟨by (with_reducible repeat (first | refine blk_drewN ?_ _ | refine blk_drew ?_ | refine blk_alloc ?_ _)); exact aa.out⟩, ⟨by repeat (first | (with_reducible first | exact HB.out | apply below_alloc | apply pw_below_drewN | apply below_drew1 | refine below_set ?_ af.out) | exact HB.out)⟩⟩
              case rest =>
               clear HC20
               try clear c1
               try clear qi1
               try clear c2
               try clear p2
               try clear c3
               try clear c4
               try clear c5
               try clear c6
               try clear c14
               try clear au
               try clear av
               try clear c16b2
               try clear qi16
               try clear aw
               try clear c18b0
               try clear c18b1
               try clear c18b2
               try clear ax
               try clear c19b0
               try clear c19b1
               try clear c19b2
               try clear az
               try clear c35b0
               try clear c37
               try clear c37b0
               try clear c37b1
               try clear c37b2
               try clear a7
               try clear c38b0
               try clear c38b1
               try clear c38b2
               try clear c39
               try clear hcz22_0
               try clear hcz22_1
               try clear hcz22_2
               try clear hcz22_3
               try clear hcz22_4
               try clear hcz22_5
               try clear hcz22_6
               try clear hcz34_0
               try clear hcz34_1
               try clear hcz34_2
               try clear hcz34_3
               try clear hcz34_4
               try clear hcz34_5
               try clear hcz34_6
               try clear hcz39_0
               try clear hcz39_1
               try clear hcz39_2
               try clear hcz39_3
               try clear hcz39_4
               try clear hcz39_5
               try clear hcz39_6
               try clear hfz22_0
               try clear hfz22_1
               try clear hfz22_2
               try clear hfz22_3
               try clear hfz22_4
               try clear hfz22_5
               try clear hfz22_6
               try clear hfz34_0
               try clear hfz34_1
               try clear hfz34_2
               try clear hfz34_3
               try clear hfz34_4
               try clear hfz34_5
               try clear hfz34_6
               try clear hfz39_0
               try clear hfz39_1
               try clear hfz39_2
               try clear hfz39_3
               try clear hfz39_4
               try clear hfz39_5
               try clear hfz39_6
               obtain ⟨kq, x3_19, rfl, HA, HJ19, aa, HB⟩ := hcut
               cases kq with
               | zero => exact absurd HA.out (by simp [attr_Text.j0])
               | succ kj19 =>
                have H := HA.out
                clear HA
                simp only [attr_Text.j0] at H
                by_cases c41 : (ae.length : Int) > 0
                ·rw [if_pos c41] at H
                 have c41b0 : decide (0 < (ae.length : Int)) = true := decide_eq_true c41
                 have c41b1 : decide (0 < ae.length) = true := decide_eq_true (by omega)
                 clear c41
                 have H' := Aside0.mk H
                 clear H
                 have hcz42_0 : wc.cell? ⟨ab, 0, none⟩ = some (.int .i64 aj) := (blk_cell aa.out 0).trans rfl
                 have hcz42_1 : wc.cell? ⟨ab, 1, none⟩ = some (.int .i64 ak) := (blk_cell aa.out 1).trans rfl
                 have hcz42_2 : wc.cell? ⟨ab, 2, none⟩ = some (.int .i64 ac) := (blk_cell aa.out 2).trans rfl
                 have hcz42_3 : wc.cell? ⟨ab, 3, none⟩ = some (.slice al ag.length am) := (blk_cell aa.out 3).trans rfl
                 have hcz42_4 : wc.cell? ⟨ab, 4, none⟩ = some (.slice an ah.length ao) := (blk_cell aa.out 4).trans rfl
                 have hcz42_5 : wc.cell? ⟨ab, 5, none⟩ = some (.int .i64 ai) := (blk_cell aa.out 5).trans rfl
                 have hcz42_6 : wc.cell? ⟨ab, 6, none⟩ = some (.slice ar ae.length aq) := (blk_cell aa.out 6).trans rfl
                 have hfz42_0 := blk_frozen aa.out 0
                 have hfz42_1 := blk_frozen aa.out 1
                 have hfz42_2 := blk_frozen aa.out 2
                 have hfz42_3 := blk_frozen aa.out 3
                 have hfz42_4 := blk_frozen aa.out 4
                 have hfz42_5 := blk_frozen aa.out 5
                 have hfz42_6 := blk_frozen aa.out 6
                 go_wp2
                 go_loopg [4, 53] kj19 (fun kq v4 v53 w' => ∃ (x4_2 : List ByteArray) (x53_2 : Int), v53 = .int .i64 x53_2 ∧ Aside0 (attr_Text.l0 kq x3_19 x4_2 ae (ae.length : Int) x53_2 = some r) ∧ Aside0 (kq ≤ kj19) ∧ Aside0 (Kd.R Kd.string 9 w' w.heap.size (fun _ => True) v4 x4_2) ∧ Aside0 (w'.heap[ab]? = some (.cells #[.int .i64 aj, .int .i64 ak, .int .i64 ac, (.slice al ag.length am), (.slice an ah.length ao), .int .i64 ai, (.slice ar ae.length aq)] 30 (0, 0))) ∧ Aside0 (Below w.heap.size w w'))
                 case atStart => exact ⟨(([] : List ByteArray)), (0), (by first | rfl | (simp; done) | (simp [*]; done)), H', ⟨Nat.le_refl _⟩, ⟨by first | exact Kd.R_nil _ _ _ _ _ | exact Kd.N_nil _ _ _ _ _ | exact Kd.V_nil _ _ _ _ _ | exact Kd.Q_nil _ _ _ _ _ | exact Kd.S_nil _ _ _ _ _⟩, ⟨by (with_reducible repeat (first | refine blk_drewN ?_ _ | refine blk_drew ?_ | refine blk_alloc ?_ _)); exact aa.out⟩, ⟨by repeat (first | (with_reducible first | exact HB.out | apply below_alloc | apply pw_below_drewN | apply below_drew1 | refine below_set ?_ af.out) | exact HB.out)⟩⟩
                 case round =>
                  clear H'
                  try clear c1
                  try clear qi1
                  try clear c2
                  try clear p2
                  try clear c3
                  try clear c4
                  try clear c5
                  try clear c6
                  try clear c14
                  try clear au
                  try clear av
                  try clear c16b2
                  try clear qi16
                  try clear aw
                  try clear c18b0
                  try clear c18b1
                  try clear c18b2
                  try clear ax
                  try clear c19b0
                  try clear c19b1
                  try clear c19b2
                  try clear az
                  try clear c35b0
                  try clear c37
                  try clear c37b0
                  try clear c37b1
                  try clear c37b2
                  try clear a7
                  try clear c38b0
                  try clear c38b1
                  try clear c38b2
                  try clear c39
                  try clear c41
                  try clear c41b0
                  try clear c41b1
                  try clear hcz22_0
                  try clear hcz22_1
                  try clear hcz22_2
                  try clear hcz22_3
                  try clear hcz22_4
                  try clear hcz22_5
                  try clear hcz22_6
                  try clear hcz34_0
                  try clear hcz34_1
                  try clear hcz34_2
                  try clear hcz34_3
                  try clear hcz34_4
                  try clear hcz34_5
                  try clear hcz34_6
                  try clear hcz39_0
                  try clear hcz39_1
                  try clear hcz39_2
                  try clear hcz39_3
                  try clear hcz39_4
                  try clear hcz39_5
                  try clear hcz39_6
                  try clear hcz42_0
                  try clear hcz42_1
                  try clear hcz42_2
                  try clear hcz42_3
                  try clear hcz42_4
                  try clear hcz42_5
                  try clear hcz42_6
                  try clear hfz22_0
                  try clear hfz22_1
                  try clear hfz22_2
                  try clear hfz22_3
                  try clear hfz22_4
                  try clear hfz22_5
                  try clear hfz22_6
                  try clear hfz34_0
                  try clear hfz34_1
                  try clear hfz34_2
                  try clear hfz34_3
                  try clear hfz34_4
                  try clear hfz34_5
                  try clear hfz34_6
                  try clear hfz39_0
                  try clear hfz39_1
                  try clear hfz39_2
                  try clear hfz39_3
                  try clear hfz39_4
                  try clear hfz39_5
                  try clear hfz39_6
                  try clear hfz42_0
                  try clear hfz42_1
                  try clear hfz42_2
                  try clear hfz42_3
                  try clear hfz42_4
                  try clear hfz42_5
                  try clear hfz42_6
                  try clear p2
                  obtain ⟨x4_2, x53_2, rfl, HA, HK2, HO_4, aa, HB⟩ := hrel
                  cases gk with
                  | zero => exact absurd HA.out (by simp [attr_Text.l0])
                  | succ k2 =>
                   have H := HA.out
                   clear HA
                   simp only [attr_Text.l0] at H
                   by_cases c43 : x53_2 < (ae.length : Int)
                   ·rw [if_pos c43] at H
                    have c43b0 : decide (x53_2 < (ae.length : Int)) = true := decide_eq_true c43
                    clear c43
                    by_cases c44 : 0 ≤ x53_2
                    ·rw [if_pos c44] at H
                     have c44b0 : decide (0 ≤ x53_2) = true := decide_eq_true c44
                     clear c44
                     by_cases c45 : x53_2 < (ae.length : Int)
                     ·rw [if_pos c45] at H
                      have c45b0 : decide (x53_2 < (ae.length : Int)) = true := decide_eq_true c45
                      clear c45
                      replace H := Option.bind_eq_some_iff.mp H
                      obtain ⟨t170, A460, H⟩ := H
                      (try dsimp only at H)
                      have A46 := Aside0.mk A460
                      clear A460
                      by_cases c47 : x4_2.length < 8796093022208
                      ·rw [if_pos c47] at H
                       have LMc47 := Aside0.mk c47
                       clear c47
                       obtain ⟨y171, hy171⟩ : ∃ y_ : List ByteArray, y_ = (x4_2 ++ [t170]) := ⟨_, rfl⟩
                       replace H : (attr_Text.l0 k2 x3_19 y171 ae (ae.length : Int) (wrap64 (x53_2 + 1))) = some r := by first | (rw [hy171]; with_reducible exact H) | (have H2_ := (Option.bind_some _ _).symm.trans H; rw [hy171]; with_reducible exact H2_) | (have H2_ := (Option.bind_some _ _).symm.trans H; with_reducible exact H2_) | with_reducible exact H | (rw [hy171]; exact H) | exact H
                       have Ny171 := Aside0.mk hy171
                       clear hy171
                       have H' := Aside0.mk H
                       clear H
                       have p169 : 0 ≤ (x53_2 : Int) := of_decide_eq_true (by first | (with_reducible assumption) | assumption)
                       have q169 : x53_2 < (ae.length : Int) := of_decide_eq_true (by first | (with_reducible assumption) | assumption)
                       obtain ⟨ad169, e169, hx169_0⟩ := Kd.at_int HR0_6.out x53_2 p169 q169
                       cases e169
                       replace hx169_0 := (HB.out.cell (World.block_lt_of_cell? w _ hx169_0)).trans hx169_0
                       replace p169 := eq_true p169
                       replace q169 := eq_true q169
                       go_wp2_with (first | ((with_reducible refine gate_callee (f := 37) rfl ?_); refine goesL_ (some 59) rfl rfl Try.func37 (by kernel_rfl) rfl #[.int .i64 (rd ae x53_2)] rfl (by (try simp only [List.map_toArray, List.map_cons, List.map_nil]); first | done | rfl) ?_; (with_reducible refine (attr_digits.calls (rd ae x53_2) t170 _ A46.out).mono ?_); rintro e w48 ⟨rfl, hb⟩; refine ⟨_, rfl, ?_⟩; replace HO_4 := Aside0.mk (Kd.R_below (by (with_reducible repeat (first | apply Kd.R_alloc | apply Kd.R_drewN | apply Kd.R_drew)); exact HO_4.out) hb); replace aa := Aside0.mk (blk_below (g := ab) (by (with_reducible repeat (first | refine blk_drewN ?_ _ | refine blk_drew ?_ | refine blk_alloc ?_ _)); exact aa.out) hb); replace HB := Aside0.mk (below_step (by repeat (first | (with_reducible first | exact HB.out | apply below_alloc | apply pw_below_drewN | apply below_drew1 | refine below_set ?_ af.out) | exact HB.out)) hb); (try clear hb); (try clear ay); (try clear hk); (try clear hi)) | ((with_reducible refine gate_builtin (b := .append) (xs := #[.tmp 57, .tmp 60]) rfl ?_); at_builtin; refine Kd.R_append Kd.string (w0 := w) w.heap.size rfl (.tmp 57) (.tmp 60) 52 9 (.string ⟨#[]⟩) 16 rfl Try.underlying52 info9 rfl (by decide) (by omega) u4 x4_2 t170 [.string t170] (fun _ => True) (fun _ => False) rfl rfl ?aP (fun _ hk => hk.elim) ?aF ?aO ?aB ?aS ?aL ?_; (case aP => exact rfl); (case aB => exact (by repeat (first | (with_reducible first | exact HB.out | apply below_alloc | apply pw_below_drewN | apply below_drew1 | refine below_set ?_ af.out) | exact HB.out))); (case aF => exact (fun _ _ => trivial)); (case aO => exact (by (with_reducible repeat (first | apply Kd.R_alloc | apply Kd.R_drewN | apply Kd.R_drew)); exact HO_4.out)); (case aS => exact (below_size (by repeat (first | (with_reducible first | exact HB.out | apply below_alloc | apply pw_below_drewN | apply below_drew1 | refine below_set ?_ af.out) | exact HB.out)))); (case aL => have := LMc47.out; omega); intro v172 w49 ho hb hg hat; rw [← Ny171.out] at ho; replace aa := Aside0.mk (blk_grown (g := ab) (o := .cells #[.int .i64 aj, .int .i64 ak, .int .i64 ac, .slice al ag.length am, .slice an ah.length ao, .int .i64 ai, .slice (some ad169) ae.length aq] 30 (0, 0)) (by (with_reducible repeat (first | refine blk_drewN ?_ _ | refine blk_drew ?_ | refine blk_alloc ?_ _)); exact aa.out) hg (Kd.R_ne HO_4.out aa.out (by decide))); replace HB := Aside0.mk (hb); have HO173 := Aside0.mk (ho); clear HO_4; clear ho hb hg hat))
                       go_roundg k2
                       case measure => have := HJ19.out; have := HK2.out; omega
                       case rel => exact ⟨(y171), (wrap64 (x53_2 + 1)), (by first | rfl | (simp; done) | (simp [*]; done)), H', ⟨by have := HJ19.out; have := HK2.out; omega⟩, ⟨by (with_reducible repeat (first | apply Kd.R_alloc | apply Kd.R_drewN | apply Kd.R_drew)); exact HO173.out⟩, ⟨by (with_reducible repeat (first | refine blk_drewN ?_ _ | refine blk_drew ?_ | refine blk_alloc ?_ _)); exact aa.out⟩, ⟨by repeat (first | (with_reducible first | exact HB.out | apply below_alloc | apply pw_below_drewN | apply below_drew1 | refine below_set ?_ af.out) | exact HB.out)⟩⟩
                      ·rw [if_neg c47] at H
                       exact absurd H (by simp)
                     ·rw [if_neg c45] at H
                      exact absurd H (by simp)
                    ·rw [if_neg c44] at H
                     exact absurd H (by simp)
                   ·rw [if_neg c43] at H
                    have c43b0 : decide (x53_2 < (ae.length : Int)) = false := decide_eq_false c43
                    clear c43
                    replace H := Option.bind_eq_some_iff.mp H
                    obtain ⟨t174, A500, H⟩ := H
                    (try dsimp only at H)
                    have A50 := Aside0.mk A500
                    clear A500
                    by_cases c51 : 11 + t174.size ≤ 9223372036854775807
                    ·rw [if_pos c51] at H
                     have c51b0 := eq_true c51
                     have c51b1 : decide (11 + t174.size ≤ 9223372036854775807) = true := decide_eq_true c51
                     try have c51b2 : (9223372036854775807 < 11 + t174.size) = False := eq_false (Nat.not_lt.2 c51)
                     by_cases c52 : ((⟨#[32, 99, 108, 117, 115, 116, 101, 114, 115, 32, 91]⟩ : ByteArray) ++ t174).size + 1 ≤ 9223372036854775807
                     ·rw [if_pos c52] at H
                      have c52b0 := eq_true c52
                      have c52b1 : decide (((⟨#[32, 99, 108, 117, 115, 116, 101, 114, 115, 32, 91]⟩ : ByteArray) ++ t174).size + 1 ≤ 9223372036854775807) = true := decide_eq_true c52
                      try have c52b2 : (9223372036854775807 < ((⟨#[32, 99, 108, 117, 115, 116, 101, 114, 115, 32, 91]⟩ : ByteArray) ++ t174).size + 1) = False := eq_false (Nat.not_lt.2 c52)
                      try have c52b3 : (9223372036854775807 < 11 + t174.size + 1) = False := eq_false (Nat.not_lt.2 (by have h_ := c52; simp only [ByteArray.size_append] at h_; exact h_))
                      by_cases c53 : x3_19.size + (((⟨#[32, 99, 108, 117, 115, 116, 101, 114, 115, 32, 91]⟩ : ByteArray) ++ t174) ++ (⟨#[93]⟩ : ByteArray)).size ≤ 9223372036854775807
                      ·rw [if_pos c53] at H
                       have c53b0 := eq_true c53
                       have c53b1 : decide (x3_19.size + (((⟨#[32, 99, 108, 117, 115, 116, 101, 114, 115, 32, 91]⟩ : ByteArray) ++ t174) ++ (⟨#[93]⟩ : ByteArray)).size ≤ 9223372036854775807) = true := decide_eq_true c53
                       try have c53b2 : (9223372036854775807 < x3_19.size + (((⟨#[32, 99, 108, 117, 115, 116, 101, 114, 115, 32, 91]⟩ : ByteArray) ++ t174) ++ (⟨#[93]⟩ : ByteArray)).size) = False := eq_false (Nat.not_lt.2 c53)
                       try have c53b3 : (9223372036854775807 < x3_19.size + (11 + t174.size + 1)) = False := eq_false (Nat.not_lt.2 (by have h_ := c53; simp only [ByteArray.size_append] at h_; exact h_))
                       obtain rfl := Option.some.inj H
                       obtain ⟨Ao54, co54, eo54⟩ := Kd.R_slice HO_4.out
                       subst eo54
                       go_wp2_with (first | ((with_reducible refine gate_callee (f := 40) rfl ?_); refine goesL_ (some 65) rfl rfl Try.func40 (by kernel_rfl) rfl #[.slice Ao54 x4_2.length co54, .string (⟨#[32]⟩ : ByteArray)] rfl (by (try simp only [List.map_toArray, List.map_cons, List.map_nil]); first | done | rfl) ?_; (with_reducible refine (strings_Join.calls _ _ x4_2 (⟨#[32]⟩ : ByteArray) t174 _ ?side1 ?side2 A50.out).mono ?_); (case side1 => repeat (first | exact (Kd.R_reads' HO_4.out).2.2 | (with_reducible refine Kd.C_alloc ?_ _) | (with_reducible refine Kd.C_drewN ?_ _) | (with_reducible refine Kd.C_drew ?_))); (case side2 => exact (Kd.R_reads' HO_4.out).2.1); rintro e w55 ⟨rfl, hb⟩; refine ⟨_, rfl, ?_⟩; replace HO_4 := Aside0.mk (Kd.R_below (by (with_reducible repeat (first | apply Kd.R_alloc | apply Kd.R_drewN | apply Kd.R_drew)); exact HO_4.out) hb); replace aa := Aside0.mk (blk_below (g := ab) (by (with_reducible repeat (first | refine blk_drewN ?_ _ | refine blk_drew ?_ | refine blk_alloc ?_ _)); exact aa.out) hb); replace HB := Aside0.mk (below_step (by repeat (first | (with_reducible first | exact HB.out | apply below_alloc | apply pw_below_drewN | apply below_drew1 | refine below_set ?_ af.out) | exact HB.out)) hb); (try clear hb); (try clear ay); (try clear hk); (try clear hi)))
                       go_ret
                       exact ⟨by first | rfl | (simp [errW_none, errW_some] <;> rfl) | (simp [*, errW_none, errW_some] <;> rfl), by repeat (first | (with_reducible first | exact HB.out | apply below_alloc | apply pw_below_drewN | apply below_drew1 | refine below_set ?_ af.out) | exact HB.out)⟩
                      ·rw [if_neg c53] at H
                       exact absurd H (by simp)
                     ·rw [if_neg c52] at H
                      exact absurd H (by simp)
                    ·rw [if_neg c51] at H
                     exact absurd H (by simp)
                ·rw [if_neg c41] at H
                 have c41b0 : decide (0 < (ae.length : Int)) = false := decide_eq_false c41
                 have c41b1 : decide (0 < ae.length) = false := decide_eq_false (by omega)
                 clear c41
                 obtain rfl := Option.some.inj H
                 have hcz56_0 : wc.cell? ⟨ab, 0, none⟩ = some (.int .i64 aj) := (blk_cell aa.out 0).trans rfl
                 have hcz56_1 : wc.cell? ⟨ab, 1, none⟩ = some (.int .i64 ak) := (blk_cell aa.out 1).trans rfl
                 have hcz56_2 : wc.cell? ⟨ab, 2, none⟩ = some (.int .i64 ac) := (blk_cell aa.out 2).trans rfl
                 have hcz56_3 : wc.cell? ⟨ab, 3, none⟩ = some (.slice al ag.length am) := (blk_cell aa.out 3).trans rfl
                 have hcz56_4 : wc.cell? ⟨ab, 4, none⟩ = some (.slice an ah.length ao) := (blk_cell aa.out 4).trans rfl
                 have hcz56_5 : wc.cell? ⟨ab, 5, none⟩ = some (.int .i64 ai) := (blk_cell aa.out 5).trans rfl
                 have hcz56_6 : wc.cell? ⟨ab, 6, none⟩ = some (.slice ar ae.length aq) := (blk_cell aa.out 6).trans rfl
                 have hfz56_0 := blk_frozen aa.out 0
                 have hfz56_1 := blk_frozen aa.out 1
                 have hfz56_2 := blk_frozen aa.out 2
                 have hfz56_3 := blk_frozen aa.out 3
                 have hfz56_4 := blk_frozen aa.out 4
                 have hfz56_5 := blk_frozen aa.out 5
                 have hfz56_6 := blk_frozen aa.out 6
                 go_wp2
                 go_ret
                 exact ⟨by first | rfl | (simp [errW_none, errW_some] <;> rfl) | (simp [*, errW_none, errW_some] <;> rfl), by repeat (first | (with_reducible first | exact HB.out | apply below_alloc | apply pw_below_drewN | apply below_drew1 | refine below_set ?_ af.out) | exact HB.out)⟩
             ·rw [if_neg ax] at H
              exact absurd H (by simp)
            ·rw [if_neg aw] at H
             exact absurd H (by simp)
           ·rw [if_neg av] at H
            exact absurd H (by simp)
          ·rw [if_neg au] at H
           exact absurd H (by simp)
         ·rw [if_neg c13] at H
          exact absurd H (by simp)
        ·rw [if_neg c12] at H
         exact absurd H (by simp)
       ·rw [if_neg c11] at H
        exact absurd H (by simp)
      ·rw [if_neg c10] at H
       exact absurd H (by simp)
     ·rw [if_neg c9] at H
      exact absurd H (by simp)
    ·rw [if_neg c8] at H
     exact absurd H (by simp)
   ·rw [if_neg c6] at H
    exact absurd H (by simp)
  ·rw [if_neg c5] at H
   exact absurd H (by simp)
 ·replace c3 := Bool.eq_false_iff.mpr c3
  subst c3
  have H1 : (some (⟨#[]⟩ : ByteArray)) = some r := by rw [if_neg (show ¬ (false = true) by decide)] at H; exact H
  clear H
  have H := H1
  clear H1
  obtain rfl := Option.some.inj H
  go_enter Try.func14, Try.ntmps14
  go_wp2_with (first | ((with_reducible refine gate_dst (N := 1) rfl ?_); refine box_event ?hg (N := 1) ?hd (cs := #[.int .i64 aj, .int .i64 ak, .int .i64 ac, .slice al ag.length am, .slice an ah.length ao, .int .i64 ai, .slice ar ae.length aq]) (t := 30) ?hr ?_; (case hd => rfl); (case hg => rfl); (case hr => first | (go_simp; done) | (go_simp; rfl)); intro ab hg w57 hbox hb; have n0_ := Aside0.mk (below_step (by repeat (first | (with_reducible first | exact HB.out | apply below_alloc | apply pw_below_drewN | apply below_drew1) | exact HB.out)) hb); have n1_ := Aside0.mk (hbox); have n2_ := Aside0.mk ((by rw [hg]; exact (below_size (by repeat (first | (with_reducible first | exact HB.out | apply below_alloc | apply pw_below_drewN | apply below_drew1) | exact HB.out))) : w.heap.size ≤ ab)); have n3_ := Aside0.mk ((by rw [hg]; exact (below_size (by repeat (first | (with_reducible first | exact HB.out | apply below_alloc | apply pw_below_drewN | apply below_drew1) | exact HB.out))) : w.heap.size ≤ ab)); clear HB; have HB := n0_; have aa := n1_; have GW158 := n2_; have af := n3_; clear n0_ n1_ n2_ n3_; clear hb hbox hg; have hcz58_0 : w57.cell? ⟨ab, 0, none⟩ = some (.int .i64 aj) := (blk_cell aa.out 0).trans rfl; have hcz58_1 : w57.cell? ⟨ab, 1, none⟩ = some (.int .i64 ak) := (blk_cell aa.out 1).trans rfl; have hcz58_2 : w57.cell? ⟨ab, 2, none⟩ = some (.int .i64 ac) := (blk_cell aa.out 2).trans rfl; have hcz58_3 : w57.cell? ⟨ab, 3, none⟩ = some (.slice al ag.length am) := (blk_cell aa.out 3).trans rfl; have hcz58_4 : w57.cell? ⟨ab, 4, none⟩ = some (.slice an ah.length ao) := (blk_cell aa.out 4).trans rfl; have hcz58_5 : w57.cell? ⟨ab, 5, none⟩ = some (.int .i64 ai) := (blk_cell aa.out 5).trans rfl; have hcz58_6 : w57.cell? ⟨ab, 6, none⟩ = some (.slice ar ae.length aq) := (blk_cell aa.out 6).trans rfl; have hfz58_0 := blk_frozen aa.out 0; have hfz58_1 := blk_frozen aa.out 1; have hfz58_2 := blk_frozen aa.out 2; have hfz58_3 := blk_frozen aa.out 3; have hfz58_4 := blk_frozen aa.out 4; have hfz58_5 := blk_frozen aa.out 5; have hfz58_6 := blk_frozen aa.out 6) | ((with_reducible refine gate_callee (f := 15) rfl ?_); refine goesL_ (some 8) rfl rfl Try.func15 (by kernel_rfl) rfl #[.agg #[.int .i64 aj, .int .i64 ak, .int .i64 ac, .slice al ag.length am, .slice an ah.length ao, .int .i64 ai, .slice ar ae.length aq]] rfl (by (try simp only [List.map_toArray, List.map_cons, List.map_nil]); first | done | rfl) ?_; (with_reducible refine (attr_May.calls k aj ak ac _ _ ag _ _ ah ai _ _ ae false _ ?side1 ?side2 ?side3 ?side4 ?side5 ?side6 A2.out).mono ?_); (case side1 | side3 | side5 => repeat (first | exact (Kd.C_below HR0_3.out HB.out) | exact (Kd.C_below HR0_4.out HB.out) | exact (Kd.C_below HR0_6.out HB.out) | (with_reducible refine Kd.C_alloc ?_ _) | (with_reducible refine Kd.C_drewN ?_ _) | (with_reducible refine Kd.C_drew ?_))); (case side2 | side4 | side6 => first | exact HC0_3.out | exact HC0_4.out | exact HC0_6.out); rintro e w59 ⟨rfl, hb⟩; refine ⟨_, rfl, ?_⟩; replace aa := Aside0.mk (blk_below (g := ab) (by (with_reducible repeat (first | refine blk_drewN ?_ _ | refine blk_drew ?_ | refine blk_alloc ?_ _)); exact aa.out) hb); replace HB := Aside0.mk (below_step (by repeat (first | (with_reducible first | exact HB.out | apply below_alloc | apply pw_below_drewN | apply below_drew1 | refine below_set ?_ af.out) | exact HB.out)) hb); (try clear hb); (try clear ay); (try clear hk); (try clear hi)))
  go_ret
  exact ⟨by first | rfl | (simp [errW_none, errW_some] <;> rfl) | (simp [*, errW_none, errW_some] <;> rfl), by repeat (first | (with_reducible first | exact HB.out | apply below_alloc | apply pw_below_drewN | apply below_drew1 | refine below_set ?_ af.out) | exact HB.out)⟩

end Go.Proofs.Ytnnlbofmlfafhaa.P

end
section
namespace Go.Proofs.Ytnnlbofmlfafhaa.P
open Go.RowKit Go.Proofs.YtnnlbofmlfafhaaW.PrintWords Go.Proofs.YtnnlbofmlfafhaaW.PrintLast Go.Proofs.YtnnlbofmlfafhaaW.PrintMore
attribute [local go_sem] max2_int min2_int max_two min_two max_three min_three max_four min_four   -- for this text's walks alone
set_option linter.unusedVariables false
set_option linter.unusedSimpArgs false

def attr_Plain.f  : Option (Int × Int × Int × List Int × (List (S63)) × Int × List Int) := some (100, 0, 0, ([] : List Int), ([] : List (S63)), 0, ([] : List Int))
set_option maxHeartbeats 8000000 in
set_option maxRecDepth 100000 in
theorem attr_Plain.calls  (r1 : Int) (r2 : Int) (r3 : Int) (r4 : List Int) (r5 : List (S63)) (r6 : Int) (r7 : List Int) (w : World) (h : attr_Plain.f  = some (r1, r2, r3, r4, r5, r6, r7)) :
    Calls Try.prog 29 #[] w fun e w' => ∃ v3_ v4_ v6_ : Value, e = .returned (.agg #[.int .i64 r1, .int .i64 r2, .int .i64 r3, v3_, v4_, .int .i64 r6, v6_]) ∧ Kd.R (Kd.int .i64) 3 w' w.heap.size (fun k_ => some k_ ≠ (v6_ : Value).ownBlock) v3_ r4 ∧ Kd.R k63 63 w' w.heap.size (fun _ => True) v4_ r5 ∧ Kd.R (Kd.int .i64) 3 w' w.heap.size (fun k_ => some k_ ≠ (v3_ : Value).ownBlock) v6_ r7 ∧ Below w.heap.size w w' := by
  have hu30 := Try.underlying30
  have HB := Aside0.mk (Below.refl w.heap.size w)
  have H : (some (100, 0, 0, ([] : List Int), ([] : List (S63)), 0, ([] : List Int))) = some (r1, r2, r3, r4, r5, r6, r7) := h
  clear h
  simp only [Option.some.injEq, Prod.mk.injEq] at H
  obtain ⟨rfl, rfl, rfl, rfl, rfl, rfl, rfl⟩ := H
  go_enter Try.func29, Try.ntmps29
  go_wp2_with (first | ((with_reducible refine gate_dst (N := 0) rfl ?_); refine box_event ?hg (N := 0) ?hd (cs := #[.int .i64 0, .int .i64 0, .int .i64 0, .slice none 0 0, .slice none 0 0, .int .i64 0, .slice none 0 0]) (t := 30) ?hr ?_; (case hd => rfl); (case hg => rfl); (case hr => first | (go_simp; done) | (go_simp; rfl)); intro gb175 hg w1 hbox hb; have n0_ := Aside0.mk (below_step (by repeat (first | (with_reducible first | exact HB.out | apply below_alloc | apply pw_below_drewN | apply below_drew1) | exact HB.out)) hb); have n1_ := Aside0.mk (hbox); have n2_ := Aside0.mk ((by rw [hg]; exact (below_size (by repeat (first | (with_reducible first | exact HB.out | apply below_alloc | apply pw_below_drewN | apply below_drew1) | exact HB.out))) : w.heap.size ≤ gb175)); have n3_ := Aside0.mk ((by rw [hg]; exact (below_size (by repeat (first | (with_reducible first | exact HB.out | apply below_alloc | apply pw_below_drewN | apply below_drew1) | exact HB.out))) : w.heap.size ≤ gb175)); clear HB; have HB := n0_; have BK175 := n1_; have GW175 := n2_; have GE175 := n3_; clear n0_ n1_ n2_ n3_; clear hb hbox hg; have hcz2_0 : w1.cell? ⟨gb175, 0, none⟩ = some (.int .i64 0) := (blk_cell BK175.out 0).trans rfl; have hcz2_1 : w1.cell? ⟨gb175, 1, none⟩ = some (.int .i64 0) := (blk_cell BK175.out 1).trans rfl; have hcz2_2 : w1.cell? ⟨gb175, 2, none⟩ = some (.int .i64 0) := (blk_cell BK175.out 2).trans rfl; have hcz2_3 : w1.cell? ⟨gb175, 3, none⟩ = some (.slice none 0 0) := (blk_cell BK175.out 3).trans rfl; have hcz2_4 : w1.cell? ⟨gb175, 4, none⟩ = some (.slice none 0 0) := (blk_cell BK175.out 4).trans rfl; have hcz2_5 : w1.cell? ⟨gb175, 5, none⟩ = some (.int .i64 0) := (blk_cell BK175.out 5).trans rfl; have hcz2_6 : w1.cell? ⟨gb175, 6, none⟩ = some (.slice none 0 0) := (blk_cell BK175.out 6).trans rfl; have hfz2_0 := blk_frozen BK175.out 0; have hfz2_1 := blk_frozen BK175.out 1; have hfz2_2 := blk_frozen BK175.out 2; have hfz2_3 := blk_frozen BK175.out 3; have hfz2_4 := blk_frozen BK175.out 4; have hfz2_5 := blk_frozen BK175.out 5; have hfz2_6 := blk_frozen BK175.out 6))
  refine bodyPost_ret (results_cell_row rfl _ _ gb175 30 #[.int .i64 100, .int .i64 0, .int .i64 0, .slice none 0 0, .slice none 0 0, .int .i64 0, .slice none 0 0] (0, 0) _ rfl (by (with_reducible repeat (first | refine blk_drewN ?_ _ | refine blk_drew ?_ | refine blk_alloc ?_ _)); refine blk_put (cs := #[.int .i64 100, .int .i64 0, .int .i64 0, .slice none 0 0, .slice none 0 0, .int .i64 0, .slice none 0 0]) ?_ 6 _ rfl; (with_reducible repeat (first | refine blk_drewN ?_ _ | refine blk_drew ?_ | refine blk_alloc ?_ _)); refine blk_put (cs := #[.int .i64 100, .int .i64 0, .int .i64 0, .slice none 0 0, .slice none 0 0, .int .i64 0, .slice none 0 0]) ?_ 5 _ rfl; (with_reducible repeat (first | refine blk_drewN ?_ _ | refine blk_drew ?_ | refine blk_alloc ?_ _)); refine blk_put (cs := #[.int .i64 100, .int .i64 0, .int .i64 0, .slice none 0 0, .slice none 0 0, .int .i64 0, .slice none 0 0]) ?_ 4 _ rfl; (with_reducible repeat (first | refine blk_drewN ?_ _ | refine blk_drew ?_ | refine blk_alloc ?_ _)); refine blk_put (cs := #[.int .i64 100, .int .i64 0, .int .i64 0, .slice none 0 0, .slice none 0 0, .int .i64 0, .slice none 0 0]) ?_ 3 _ rfl; (with_reducible repeat (first | refine blk_drewN ?_ _ | refine blk_drew ?_ | refine blk_alloc ?_ _)); refine blk_put (cs := #[.int .i64 100, .int .i64 0, .int .i64 0, .slice none 0 0, .slice none 0 0, .int .i64 0, .slice none 0 0]) ?_ 2 _ rfl; (with_reducible repeat (first | refine blk_drewN ?_ _ | refine blk_drew ?_ | refine blk_alloc ?_ _)); refine blk_put (cs := #[.int .i64 100, .int .i64 0, .int .i64 0, .slice none 0 0, .slice none 0 0, .int .i64 0, .slice none 0 0]) ?_ 1 _ rfl; (with_reducible repeat (first | refine blk_drewN ?_ _ | refine blk_drew ?_ | refine blk_alloc ?_ _)); refine blk_put (cs := #[.int .i64 0, .int .i64 0, .int .i64 0, .slice none 0 0, .slice none 0 0, .int .i64 0, .slice none 0 0]) ?_ 0 _ rfl; (with_reducible repeat (first | refine blk_drewN ?_ _ | refine blk_drew ?_ | refine blk_alloc ?_ _)); exact BK175.out) Try.underlying30 rfl (by kernel_rfl)) rfl ?_
  exact ⟨_, _, _, by first | rfl | (simp [errW_none, errW_some] <;> rfl) | (simp [*, errW_none, errW_some] <;> rfl), by first | exact Kd.R_nil _ _ _ _ _ | exact Kd.N_nil _ _ _ _ _ | exact Kd.V_nil _ _ _ _ _ | exact Kd.Q_nil _ _ _ _ _ | exact Kd.S_nil _ _ _ _ _, by first | exact Kd.R_nil _ _ _ _ _ | exact Kd.N_nil _ _ _ _ _ | exact Kd.V_nil _ _ _ _ _ | exact Kd.Q_nil _ _ _ _ _ | exact Kd.S_nil _ _ _ _ _, by first | exact Kd.R_nil _ _ _ _ _ | exact Kd.N_nil _ _ _ _ _ | exact Kd.V_nil _ _ _ _ _ | exact Kd.Q_nil _ _ _ _ _ | exact Kd.S_nil _ _ _ _ _, by repeat (first | (with_reducible first | exact HB.out | apply below_alloc | apply pw_below_drewN | apply below_drew1 | refine below_set ?_ GE175.out) | exact HB.out)⟩

def whirligiglaw09_lives.f (k : Nat)  : Option (Bool) := (attr_Plain.f).bind fun bt176 => ((attr_Text.f k bt176.1 bt176.2.1 bt176.2.2.1 bt176.2.2.2.1 bt176.2.2.2.2.1 bt176.2.2.2.2.2.1 bt176.2.2.2.2.2.2).bind fun t189 => (some (t189.toList == ([112, 114, 101, 102, 32, 49, 48, 48, 32, 109, 101, 100, 32, 48, 32, 111, 114, 105, 103, 105, 110, 32, 105, 103, 112, 32, 112, 97, 116, 104, 32, 91, 93, 32, 99, 111, 109, 109, 115, 32, 91, 93] : List UInt8))))
theorem whirligiglaw09_lives.mono : ∀ k, LeO (whirligiglaw09_lives.f k ) (whirligiglaw09_lives.f (k + 1) ) := by
  intro  k
  unfold whirligiglaw09_lives.f
  repeat' first
      | (with_reducible exact attr_Text.mono _ _ _ _ _ _ _ _)
      | (with_reducible exact LeO.refl _)
      | (with_reducible exact LeO.none _)
      | (with_reducible refine LeO.ite ?_ ?_)
      | (with_reducible refine LeO.bind ?_ (fun _ => ?_))
      | exact attr_Text.mono _ _ _ _ _ _ _ _
      | exact LeO.none _
      | refine LeO.ite ?_ ?_
      | refine LeO.bind ?_ (fun _ => ?_)
set_option maxHeartbeats 8000000 in
set_option maxRecDepth 100000 in
theorem whirligiglaw09_lives.calls (k : Nat)  (r : Bool) (w : World) (h : whirligiglaw09_lives.f k  = some r) :
    Calls Try.prog 10 #[] w fun e w' => e = .returned (.bool r) ∧ Below w.heap.size w w' := by
  have HB := Aside0.mk (Below.refl w.heap.size w)
  have H : ((attr_Plain.f).bind fun bt176 => ((attr_Text.f k bt176.1 bt176.2.1 bt176.2.2.1 bt176.2.2.2.1 bt176.2.2.2.2.1 bt176.2.2.2.2.2.1 bt176.2.2.2.2.2.2).bind fun t189 => (some (t189.toList == ([112, 114, 101, 102, 32, 49, 48, 48, 32, 109, 101, 100, 32, 48, 32, 111, 114, 105, 103, 105, 110, 32, 105, 103, 112, 32, 112, 97, 116, 104, 32, 91, 93, 32, 99, 111, 109, 109, 115, 32, 91, 93] : List UInt8))))) = some r := h
  clear h
  replace H := Option.bind_eq_some_iff.mp H
  obtain ⟨⟨t176, t177, t178, t179, t182, t185, t186⟩, A10, H⟩ := H
  replace H : ((attr_Text.f k t176 t177 t178 t179 t182 t185 t186).bind fun t189 => (some (t189.toList == ([112, 114, 101, 102, 32, 49, 48, 48, 32, 109, 101, 100, 32, 48, 32, 111, 114, 105, 103, 105, 110, 32, 105, 103, 112, 32, 112, 97, 116, 104, 32, 91, 93, 32, 99, 111, 109, 109, 115, 32, 91, 93] : List UInt8)))) = some r := H
  have A1 := Aside0.mk A10
  clear A10
  replace H := Option.bind_eq_some_iff.mp H
  obtain ⟨t189, A20, H⟩ := H
  replace H : (some (t189.toList == ([112, 114, 101, 102, 32, 49, 48, 48, 32, 109, 101, 100, 32, 48, 32, 111, 114, 105, 103, 105, 110, 32, 105, 103, 112, 32, 112, 97, 116, 104, 32, 91, 93, 32, 99, 111, 109, 109, 115, 32, 91, 93] : List UInt8))) = some r := H
  have A2 := Aside0.mk A20
  clear A20
  obtain rfl := Option.some.inj H
  go_enter Try.func10, Try.ntmps10
  go_wp2_with (first | ((with_reducible refine gate_callee (f := 29) rfl ?_); refine goesL_ (some 1) rfl rfl Try.func29 (by kernel_rfl) rfl #[] rfl (by (try simp only [List.map_toArray, List.map_cons, List.map_nil]); first | done | rfl | (simp only [List.length_drop, List.length_take]; rfl)) ?_; (with_reducible refine (attr_Plain.calls  t176 t177 t178 t179 t182 t185 t186 _ A1.out).mono ?_); rintro e w3 ⟨v180, v183, v187, rfl, ho0, ho1, ho2, hb⟩; refine ⟨_, rfl, ?_⟩; have n0_ := Aside0.mk (Kd.R_lower ho0 (below_size (by repeat (first | (with_reducible first | exact HB.out | apply below_alloc | apply pw_below_drewN | apply below_drew1) | exact HB.out)))); have n1_ := Aside0.mk (Kd.R_lower ho1 (below_size (by repeat (first | (with_reducible first | exact HB.out | apply below_alloc | apply pw_below_drewN | apply below_drew1) | exact HB.out)))); have n2_ := Aside0.mk (Kd.R_lower ho2 (below_size (by repeat (first | (with_reducible first | exact HB.out | apply below_alloc | apply pw_below_drewN | apply below_drew1) | exact HB.out)))); have n3_ := Aside0.mk (below_step (by repeat (first | (with_reducible first | exact HB.out | apply below_alloc | apply pw_below_drewN | apply below_drew1) | exact HB.out)) hb); clear HB; have HO181 := n0_; have HO184 := n1_; have HO188 := n2_; have HB := n3_; clear n0_ n1_ n2_ n3_; (try clear hb); (try clear hb2); (try clear hk); (try clear hi); (try clear ho0); (try clear ho1); (try clear ho2); obtain ⟨Ao4, co4, eo4⟩ := Kd.R_slice HO181.out; subst eo4; obtain ⟨Ao5, co5, eo5⟩ := Kd.R_slice HO184.out; subst eo5; obtain ⟨Ao6, co6, eo6⟩ := Kd.R_slice HO188.out; subst eo6) | ((with_reducible refine gate_callee (f := 14) rfl ?_); refine goesL_ (some 2) rfl rfl Try.func14 (by kernel_rfl) rfl #[.agg #[.int .i64 t176, .int .i64 t177, .int .i64 t178, .slice Ao4 t179.length co4, .slice Ao5 t182.length co5, .int .i64 t185, .slice Ao6 t186.length co6]] rfl (by (try simp only [List.map_toArray, List.map_cons, List.map_nil]); first | done | rfl | (simp only [List.length_drop, List.length_take]; rfl)) ?_; (with_reducible refine (attr_Text.calls k t176 t177 t178 _ _ t179 _ _ t182 t185 _ _ t186 t189 _ ?side1 ?side2 ?side3 ?side4 ?side5 ?side6 A2.out).mono ?_); (case side1 => repeat (first | exact (Kd.R_reads' HO181.out).2.2 | (with_reducible refine Kd.C_alloc ?_ _) | (with_reducible refine Kd.C_drewN ?_ _) | (with_reducible refine Kd.C_drew ?_))); (case side2 => exact (Kd.R_reads' HO181.out).2.1); (case side3 => repeat (first | exact (Kd.R_reads' HO184.out).2.2 | (with_reducible refine Kd.C_alloc ?_ _) | (with_reducible refine Kd.C_drewN ?_ _) | (with_reducible refine Kd.C_drew ?_))); (case side4 => exact (Kd.R_reads' HO184.out).2.1); (case side5 => repeat (first | exact (Kd.R_reads' HO188.out).2.2 | (with_reducible refine Kd.C_alloc ?_ _) | (with_reducible refine Kd.C_drewN ?_ _) | (with_reducible refine Kd.C_drew ?_))); (case side6 => exact (Kd.R_reads' HO188.out).2.1); rintro e w7 ⟨rfl, hb⟩; refine ⟨_, rfl, ?_⟩; have n0_ := Aside0.mk (Kd.R_below (by (with_reducible repeat (first | apply Kd.R_alloc | apply Kd.R_drewN | apply Kd.R_drew)); exact HO181.out) hb); have n1_ := Aside0.mk (Kd.R_below (by (with_reducible repeat (first | apply Kd.R_alloc | apply Kd.R_drewN | apply Kd.R_drew)); exact HO184.out) hb); have n2_ := Aside0.mk (Kd.R_below (by (with_reducible repeat (first | apply Kd.R_alloc | apply Kd.R_drewN | apply Kd.R_drew)); exact HO188.out) hb); have n3_ := Aside0.mk (below_step (by repeat (first | (with_reducible first | exact HB.out | apply below_alloc | apply pw_below_drewN | apply below_drew1) | exact HB.out)) hb); clear HO181; clear HO184; clear HO188; clear HB; have HO181 := n0_; have HO184 := n1_; have HO188 := n2_; have HB := n3_; clear n0_ n1_ n2_ n3_; (try clear hb); (try clear hb2); (try clear hk); (try clear hi)))
  go_ret
  exact ⟨by first | rfl | (simp [errW_none, errW_some] <;> rfl) | (simp [*, errW_none, errW_some] <;> rfl), by repeat (first | (with_reducible first | exact HB.out | apply below_alloc | apply pw_below_drewN | apply below_drew1) | exact HB.out)⟩

end Go.Proofs.Ytnnlbofmlfafhaa.P

end
section
set_option linter.unusedVariables false
set_option linter.unusedSimpArgs false
namespace Go.Proofs.Ytnnlbofmlfafhaa.P
open Go.RowKit Go.Proofs.YtnnlbofmlfafhaaW.PrintWords Go.Proofs.YtnnlbofmlfafhaaW.PrintLast Go.Proofs.YtnnlbofmlfafhaaW.PrintMore

set_option maxHeartbeats 4000000 in
set_option maxRecDepth 100000 in
theorem cmpf_Comm (fid : Nat) (o : S63 → S63 → Int) (hen : ∀ (args : Array Value) (W : World), (callFunc fid args).run Try.prog W = .ok (.enter fid args) W)
    (hcmp : ∀ (x y : S63) (W : World), Calls Try.prog fid #[.agg #[.int .i64 x.f0, .int .i64 x.f1], .agg #[.int .i64 y.f0, .int .i64 y.f1]] W fun e w' => e = .returned (.int .i64 (o x y)) ∧ Below W.heap.size W w')
    (A0 : Option Addr) (c0 : Nat) (l0 : List S63) (A1 : Option Addr) (c1 : Nat) (l1 : List S63) (w : World) (hr0 : Kd.C k63 w A0 l0.length l0) (hr1 : Kd.C k63 w A1 l1.length l1) :
    Calls Try.prog 62 #[.slice A0 l0.length c0, .slice A1 l1.length c1, .func (.func fid) #[] #[]] w fun e w' => e = .returned (.int .i64 (cmpLst o l0 l1)) ∧ Below w.heap.size w w' := by
  have hlm0 : l0.length ≤ 9223372036854775807 := Kd.C_max hr0
  have hlm1 : l1.length ≤ 9223372036854775807 := Kd.C_max hr1
  have HC := mkHid hcmp
  have HR0 := mkHid hr0
  have HR1 := mkHid hr1
  clear hcmp hr0 hr1
  generalize hD : cmpLst o l0 l1 = D
  have HD := mkHid hD
  clear hD
  go_enter Try.func62, Try.ntmps62
  go_wp2_with fail
  go_loopg [13] l0.length (fun kq v13 wr => ∃ k : Int, v13 = .int .i64 k ∧ 0 ≤ k ∧ k ≤ l0.length ∧ k ≤ l1.length ∧ Hid (k + kq = l0.length) ∧ Hid (cmpLst o (l0.drop k.toNat) (l1.drop k.toNat) = D) ∧ Hid (Below w.heap.size w wr))
  case atStart => exact ⟨0, rfl, by omega, by omega, by omega, by unfold Hid; omega, HD.out, Below.refl _ _⟩
  case round =>
    obtain ⟨k, rfl, k0, kn, kn1, hk, hcl, hB⟩ := hrel
    have hk1 := hk.out
    by_cases hkn : k < l0.length
    · have q1 : decide (k < (l0.length : Int)) = true := decide_eq_true hkn
      obtain ⟨x, hx⟩ : ∃ x, l0[k.toNat]? = some x := ⟨_, List.getElem?_eq_getElem (h := by omega)⟩
      obtain ⟨g, ob, rfl, hg, hcells⟩ := C_at (Kd.C_below HR0.out hB.out) (by decide) (by omega)
      obtain ⟨cs, _, hK, hcc⟩ := hcells _ _ hx
      have e := k63_open hK
      replace e : cs = [.int .i64 x.f0, .int .i64 x.f1] := e
      subst e
      have d0 : wr.cell? ⟨g, ob + k.toNat * 2 + 0, none⟩ = some (.int .i64 x.f0) := hcc 0 _ rfl
      have d1 : wr.cell? ⟨g, ob + k.toNat * 2 + 1, none⟩ = some (.int .i64 x.f1) := hcc 1 _ rfl

      clear hcc hcells hK
      try rw [Nat.add_zero] at d0
      try rw [Nat.mul_one] at d0
      have hdx : l0.drop k.toNat = x :: l0.drop (k.toNat + 1) := by
        obtain ⟨hh, e⟩ := List.getElem?_eq_some_iff.1 hx
        rw [List.drop_eq_getElem_cons hh, e]
      have HDX := mkHid hdx
      clear hx hdx
      by_cases hk2 : k < l1.length
      · have q2 : decide ((l1.length : Int) ≤ k) = false := decide_eq_false (by omega)
        have q2' : decide (k < (l1.length : Int)) = true := decide_eq_true hk2
        obtain ⟨y, hy⟩ : ∃ y, l1[k.toNat]? = some y := ⟨_, List.getElem?_eq_getElem (h := by omega)⟩
        obtain ⟨g2, ob2, rfl, hg2, hcells⟩ := C_at (Kd.C_below HR1.out hB.out) (by decide) (by omega)
        obtain ⟨cs, _, hK, hcc⟩ := hcells _ _ hy
        have e := k63_open hK
        replace e : cs = [.int .i64 y.f0, .int .i64 y.f1] := e
        subst e
        have f0 : wr.cell? ⟨g2, ob2 + k.toNat * 2 + 0, none⟩ = some (.int .i64 y.f0) := hcc 0 _ rfl
        have f1 : wr.cell? ⟨g2, ob2 + k.toNat * 2 + 1, none⟩ = some (.int .i64 y.f1) := hcc 1 _ rfl

        clear hcc hcells hK
        try rw [Nat.add_zero] at f0
        try rw [Nat.mul_one] at f0
        have hdy : l1.drop k.toNat = y :: l1.drop (k.toNat + 1) := by
          obtain ⟨hh, e⟩ := List.getElem?_eq_some_iff.1 hy
          rw [List.drop_eq_getElem_cons hh, e]
        have HDY := mkHid hdy
        have hw1 : IntKind.i64.wrap (k + 1) = k + 1 := IntWalk.i64_in _ (by omega)
        have hne1 : g ≠ wr.heap.size := by omega
        have hne2 : g2 ≠ wr.heap.size := by omega
        clear hy hdy
        have hc := hcl.out
        rw [HDX.out, HDY.out] at hc
        unfold cmpLst at hc
        by_cases h0 : o x y = 0
        · rw [if_neg (by rw [h0]; simp)] at hc
          have HC0 := mkHid hc
          have H0 := mkHid h0
          clear hc h0
          go_wp2_with fail
          refine (HC.out x y _).mono ?_
          rintro e w' ⟨rfl, hb⟩
          have HB2 : Hid (Below w.heap.size w w') := below_step (by repeat (first | exact hB.out | apply below_alloc)) hb
          clear hb
          rw [H0.out]
          go_wp2_with fail
          go_roundg (gk - 1)
          case measure => omega
          case rel =>
            refine ⟨k + 1, rfl, by omega, by omega, by omega, by unfold Hid; omega, ?_, HB2.out⟩
            have e : (k + 1).toNat = k.toNat + 1 := by omega
            show cmpLst o (l0.drop (k + 1).toNat) (l1.drop (k + 1).toNat) = D
            rw [e]; exact HC0.out
        · rw [if_pos h0] at hc
          have HC0 := mkHid hc
          have q3 : (D == 0) = false := by rw [← hc]; simpa using h0
          have q3' : (D != 0) = true := by rw [← hc]; simpa using h0
          clear hc h0
          go_wp2_with fail
          refine (HC.out x y _).mono ?_
          rintro e w' ⟨rfl, hb⟩
          have HB2 : Hid (Below w.heap.size w w') := below_step (by repeat (first | exact hB.out | apply below_alloc)) hb
          clear hb
          rw [HC0.out]
          go_wp2_with fail
          go_ret
          exact ⟨rfl, HB2.out⟩
      · have q2 : decide ((l1.length : Int) ≤ k) = true := decide_eq_true (by omega)
        have hc := hcl.out
        rw [HDX.out, (List.drop_eq_nil_iff.2 (by omega) : l1.drop k.toNat = [])] at hc
        have hc1 : (1 : Int) = D := hc
        have HC1 := mkHid hc1
        clear hc hc1
        go_wp2_with fail
        go_ret
        refine ⟨by rw [← HC1.out]; rfl, ?_⟩
        repeat (first | exact hB.out | apply below_alloc)
    · have q1 : decide (k < (l0.length : Int)) = false := decide_eq_false (by omega)
      have hc := hcl.out
      rw [(List.drop_eq_nil_iff.2 (by omega) : l0.drop k.toNat = [])] at hc
      by_cases hk2 : l0.length < l1.length
      · have q2 : decide (l0.length < l1.length) = true := decide_eq_true hk2
        have q2' : decide ((l0.length : Int) < (l1.length : Int)) = true := decide_eq_true (by omega)
        obtain ⟨y, hy⟩ : ∃ y, l1[k.toNat]? = some y := ⟨_, List.getElem?_eq_getElem (h := by omega)⟩
        obtain ⟨hh, e⟩ := List.getElem?_eq_some_iff.1 hy
        rw [List.drop_eq_getElem_cons hh] at hc
        have hc1 : (-1 : Int) = D := hc
        have HC1 := mkHid hc1
        clear hc hc1 hy e
        go_wp2_with fail
        go_ret
        exact ⟨by rw [← HC1.out]; rfl, hB.out⟩
      · have q2 : decide (l0.length < l1.length) = false := decide_eq_false hk2
        have q2' : decide ((l0.length : Int) < (l1.length : Int)) = false := decide_eq_false (by omega)
        rw [(List.drop_eq_nil_iff.2 (by omega) : l1.drop k.toNat = [])] at hc
        have hc1 : (0 : Int) = D := hc
        have HC1 := mkHid hc1
        clear hc hc1
        go_wp2_with fail
        go_ret
        exact ⟨by rw [← HC1.out]; rfl, hB.out⟩
end Go.Proofs.Ytnnlbofmlfafhaa.P

end
section
namespace Go.Proofs.Ytnnlbofmlfafhaa.P
open Go.RowKit Go.Proofs.YtnnlbofmlfafhaaW.PrintWords Go.Proofs.YtnnlbofmlfafhaaW.PrintLast Go.Proofs.YtnnlbofmlfafhaaW.PrintMore
attribute [local go_sem] max2_int min2_int max_two min_two max_three min_three max_four min_four   -- for this text's walks alone
set_option linter.unusedVariables false
set_option linter.unusedSimpArgs false

def whirligigref09_Few.f (a0_0 : Int) (a0_1 : Int) (a0_2 : Int) (l0_3 : List Int) (l0_4 : List (S63)) (a0_5 : Int) (l0_6 : List Int) : Option (Bool) := if (l0_3.length : Int) ≤ 100 then (if (l0_4.length : Int) ≤ 100 then (some (decide ((l0_6.length : Int) ≤ 100))) else (some false)) else (some false)
set_option maxHeartbeats 8000000 in
set_option maxRecDepth 100000 in
theorem whirligigref09_Few.calls (a0_0 : Int) (a0_1 : Int) (a0_2 : Int) (A0_3 : Option Addr) (c0_3 : Nat) (l0_3 : List Int) (A0_4 : Option Addr) (c0_4 : Nat) (l0_4 : List (S63)) (a0_5 : Int) (A0_6 : Option Addr) (c0_6 : Nat) (l0_6 : List Int) (r : Bool) (w : World) (hr0_3 : Kd.C (Kd.int .i64) w A0_3 l0_3.length l0_3) (hc0_3 : l0_3.length ≤ c0_3) (hr0_4 : Kd.C k63 w A0_4 l0_4.length l0_4) (hc0_4 : l0_4.length ≤ c0_4) (hr0_6 : Kd.C (Kd.int .i64) w A0_6 l0_6.length l0_6) (hc0_6 : l0_6.length ≤ c0_6) (h : whirligigref09_Few.f a0_0 a0_1 a0_2 l0_3 l0_4 a0_5 l0_6 = some r) :
    Calls Try.prog 11 #[.agg #[.int .i64 a0_0, .int .i64 a0_1, .int .i64 a0_2, .slice A0_3 l0_3.length c0_3, .slice A0_4 l0_4.length c0_4, .int .i64 a0_5, .slice A0_6 l0_6.length c0_6]] w fun e w' => e = .returned (.bool r) ∧ Below w.heap.size w w' := by
  have hu30 := Try.underlying30
  have HR0_3 := Aside0.mk hr0_3
  have HC0_3 := Aside0.mk hc0_3
  clear hr0_3 hc0_3
  have HR0_4 := Aside0.mk hr0_4
  have HC0_4 := Aside0.mk hc0_4
  clear hr0_4 hc0_4
  have HR0_6 := Aside0.mk hr0_6
  have HC0_6 := Aside0.mk hc0_6
  clear hr0_6 hc0_6
  have HB := Aside0.mk (Below.refl w.heap.size w)
  have H : (if (l0_3.length : Int) ≤ 100 then (if (l0_4.length : Int) ≤ 100 then (some (decide ((l0_6.length : Int) ≤ 100))) else (some false)) else (some false)) = some r := h
  clear h
  by_cases c2 : (l0_3.length : Int) ≤ 100
  · rw [if_pos c2] at H
    have c2b0 : decide ((l0_3.length : Int) ≤ 100) = true := decide_eq_true c2
    have c2b1 : decide (l0_3.length ≤ 100) = true := decide_eq_true (by omega)
    clear c2
    by_cases c3 : (l0_4.length : Int) ≤ 100
    · rw [if_pos c3] at H
      have c3b0 : decide ((l0_4.length : Int) ≤ 100) = true := decide_eq_true c3
      have c3b1 : decide (l0_4.length ≤ 100) = true := decide_eq_true (by omega)
      clear c3
      obtain rfl := Option.some.inj H
      go_enter Try.func11, Try.ntmps11
      go_wp2_with (first | ((with_reducible refine gate_dst (N := 1) rfl ?_); (try (refine gate_guard (by rfl) ?_; dsimp only)); refine box_event ?hg (N := 1) ?hd (cs := #[.int .i64 a0_0, .int .i64 a0_1, .int .i64 a0_2, .slice A0_3 l0_3.length c0_3, .slice A0_4 l0_4.length c0_4, .int .i64 a0_5, .slice A0_6 l0_6.length c0_6]) (t := 30) ?hr ?_; (case hd => rfl); (case hg => rfl); (case hr => first | (go_simp; done) | (go_simp; rfl)); intro gb194 hg w4 hbox hb; have n0_ := Aside0.mk (below_step (by repeat (first | (with_reducible first | exact HB.out | apply below_alloc | apply pw_below_drewN | apply below_drew1) | exact HB.out)) hb); have n1_ := Aside0.mk (hbox); have n2_ := Aside0.mk ((by rw [hg]; exact (below_size (by repeat (first | (with_reducible first | exact HB.out | apply below_alloc | apply pw_below_drewN | apply below_drew1) | exact HB.out))) : w.heap.size ≤ gb194)); have n3_ := Aside0.mk ((by rw [hg]; exact (below_size (by repeat (first | (with_reducible first | exact HB.out | apply below_alloc | apply pw_below_drewN | apply below_drew1) | exact HB.out))) : w.heap.size ≤ gb194)); clear HB; have HB := n0_; have BK194 := n1_; have GW194 := n2_; have GE194 := n3_; clear n0_ n1_ n2_ n3_; clear hb hbox hg; have hcz5_0 : w4.cell? ⟨gb194, 0, none⟩ = some (.int .i64 a0_0) := (blk_cell BK194.out 0).trans rfl; have hcz5_1 : w4.cell? ⟨gb194, 1, none⟩ = some (.int .i64 a0_1) := (blk_cell BK194.out 1).trans rfl; have hcz5_2 : w4.cell? ⟨gb194, 2, none⟩ = some (.int .i64 a0_2) := (blk_cell BK194.out 2).trans rfl; have hcz5_3 : w4.cell? ⟨gb194, 3, none⟩ = some (.slice A0_3 l0_3.length c0_3) := (blk_cell BK194.out 3).trans rfl; have hcz5_4 : w4.cell? ⟨gb194, 4, none⟩ = some (.slice A0_4 l0_4.length c0_4) := (blk_cell BK194.out 4).trans rfl; have hcz5_5 : w4.cell? ⟨gb194, 5, none⟩ = some (.int .i64 a0_5) := (blk_cell BK194.out 5).trans rfl; have hcz5_6 : w4.cell? ⟨gb194, 6, none⟩ = some (.slice A0_6 l0_6.length c0_6) := (blk_cell BK194.out 6).trans rfl; have hfz5_0 := blk_frozen BK194.out 0; have hfz5_1 := blk_frozen BK194.out 1; have hfz5_2 := blk_frozen BK194.out 2; have hfz5_3 := blk_frozen BK194.out 3; have hfz5_4 := blk_frozen BK194.out 4; have hfz5_5 := blk_frozen BK194.out 5; have hfz5_6 := blk_frozen BK194.out 6))
      go_ret
      exact ⟨by first | rfl | (simp [errW_none, errW_some] <;> rfl) | (simp [*, errW_none, errW_some] <;> rfl), by repeat (first | (with_reducible first | exact HB.out | apply below_alloc | apply pw_below_drewN | apply below_drew1 | refine below_set ?_ GE194.out) | exact HB.out)⟩
    · rw [if_neg c3] at H
      have c3b0 : decide ((l0_4.length : Int) ≤ 100) = false := decide_eq_false c3
      have c3b1 : decide (l0_4.length ≤ 100) = false := decide_eq_false (by omega)
      clear c3
      obtain rfl := Option.some.inj H
      go_enter Try.func11, Try.ntmps11
      go_wp2_with (first | ((with_reducible refine gate_dst (N := 1) rfl ?_); (try (refine gate_guard (by rfl) ?_; dsimp only)); refine box_event ?hg (N := 1) ?hd (cs := #[.int .i64 a0_0, .int .i64 a0_1, .int .i64 a0_2, .slice A0_3 l0_3.length c0_3, .slice A0_4 l0_4.length c0_4, .int .i64 a0_5, .slice A0_6 l0_6.length c0_6]) (t := 30) ?hr ?_; (case hd => rfl); (case hg => rfl); (case hr => first | (go_simp; done) | (go_simp; rfl)); intro gb194 hg w6 hbox hb; have n0_ := Aside0.mk (below_step (by repeat (first | (with_reducible first | exact HB.out | apply below_alloc | apply pw_below_drewN | apply below_drew1) | exact HB.out)) hb); have n1_ := Aside0.mk (hbox); have n2_ := Aside0.mk ((by rw [hg]; exact (below_size (by repeat (first | (with_reducible first | exact HB.out | apply below_alloc | apply pw_below_drewN | apply below_drew1) | exact HB.out))) : w.heap.size ≤ gb194)); have n3_ := Aside0.mk ((by rw [hg]; exact (below_size (by repeat (first | (with_reducible first | exact HB.out | apply below_alloc | apply pw_below_drewN | apply below_drew1) | exact HB.out))) : w.heap.size ≤ gb194)); clear HB; have HB := n0_; have BK194 := n1_; have GW194 := n2_; have GE194 := n3_; clear n0_ n1_ n2_ n3_; clear hb hbox hg; have hcz7_0 : w6.cell? ⟨gb194, 0, none⟩ = some (.int .i64 a0_0) := (blk_cell BK194.out 0).trans rfl; have hcz7_1 : w6.cell? ⟨gb194, 1, none⟩ = some (.int .i64 a0_1) := (blk_cell BK194.out 1).trans rfl; have hcz7_2 : w6.cell? ⟨gb194, 2, none⟩ = some (.int .i64 a0_2) := (blk_cell BK194.out 2).trans rfl; have hcz7_3 : w6.cell? ⟨gb194, 3, none⟩ = some (.slice A0_3 l0_3.length c0_3) := (blk_cell BK194.out 3).trans rfl; have hcz7_4 : w6.cell? ⟨gb194, 4, none⟩ = some (.slice A0_4 l0_4.length c0_4) := (blk_cell BK194.out 4).trans rfl; have hcz7_5 : w6.cell? ⟨gb194, 5, none⟩ = some (.int .i64 a0_5) := (blk_cell BK194.out 5).trans rfl; have hcz7_6 : w6.cell? ⟨gb194, 6, none⟩ = some (.slice A0_6 l0_6.length c0_6) := (blk_cell BK194.out 6).trans rfl; have hfz7_0 := blk_frozen BK194.out 0; have hfz7_1 := blk_frozen BK194.out 1; have hfz7_2 := blk_frozen BK194.out 2; have hfz7_3 := blk_frozen BK194.out 3; have hfz7_4 := blk_frozen BK194.out 4; have hfz7_5 := blk_frozen BK194.out 5; have hfz7_6 := blk_frozen BK194.out 6))
      go_ret
      exact ⟨by first | rfl | (simp [errW_none, errW_some] <;> rfl) | (simp [*, errW_none, errW_some] <;> rfl), by repeat (first | (with_reducible first | exact HB.out | apply below_alloc | apply pw_below_drewN | apply below_drew1 | refine below_set ?_ GE194.out) | exact HB.out)⟩
  · rw [if_neg c2] at H
    have c2b0 : decide ((l0_3.length : Int) ≤ 100) = false := decide_eq_false c2
    have c2b1 : decide (l0_3.length ≤ 100) = false := decide_eq_false (by omega)
    clear c2
    obtain rfl := Option.some.inj H
    go_enter Try.func11, Try.ntmps11
    go_wp2_with (first | ((with_reducible refine gate_dst (N := 1) rfl ?_); (try (refine gate_guard (by rfl) ?_; dsimp only)); refine box_event ?hg (N := 1) ?hd (cs := #[.int .i64 a0_0, .int .i64 a0_1, .int .i64 a0_2, .slice A0_3 l0_3.length c0_3, .slice A0_4 l0_4.length c0_4, .int .i64 a0_5, .slice A0_6 l0_6.length c0_6]) (t := 30) ?hr ?_; (case hd => rfl); (case hg => rfl); (case hr => first | (go_simp; done) | (go_simp; rfl)); intro gb194 hg w8 hbox hb; have n0_ := Aside0.mk (below_step (by repeat (first | (with_reducible first | exact HB.out | apply below_alloc | apply pw_below_drewN | apply below_drew1) | exact HB.out)) hb); have n1_ := Aside0.mk (hbox); have n2_ := Aside0.mk ((by rw [hg]; exact (below_size (by repeat (first | (with_reducible first | exact HB.out | apply below_alloc | apply pw_below_drewN | apply below_drew1) | exact HB.out))) : w.heap.size ≤ gb194)); have n3_ := Aside0.mk ((by rw [hg]; exact (below_size (by repeat (first | (with_reducible first | exact HB.out | apply below_alloc | apply pw_below_drewN | apply below_drew1) | exact HB.out))) : w.heap.size ≤ gb194)); clear HB; have HB := n0_; have BK194 := n1_; have GW194 := n2_; have GE194 := n3_; clear n0_ n1_ n2_ n3_; clear hb hbox hg; have hcz9_0 : w8.cell? ⟨gb194, 0, none⟩ = some (.int .i64 a0_0) := (blk_cell BK194.out 0).trans rfl; have hcz9_1 : w8.cell? ⟨gb194, 1, none⟩ = some (.int .i64 a0_1) := (blk_cell BK194.out 1).trans rfl; have hcz9_2 : w8.cell? ⟨gb194, 2, none⟩ = some (.int .i64 a0_2) := (blk_cell BK194.out 2).trans rfl; have hcz9_3 : w8.cell? ⟨gb194, 3, none⟩ = some (.slice A0_3 l0_3.length c0_3) := (blk_cell BK194.out 3).trans rfl; have hcz9_4 : w8.cell? ⟨gb194, 4, none⟩ = some (.slice A0_4 l0_4.length c0_4) := (blk_cell BK194.out 4).trans rfl; have hcz9_5 : w8.cell? ⟨gb194, 5, none⟩ = some (.int .i64 a0_5) := (blk_cell BK194.out 5).trans rfl; have hcz9_6 : w8.cell? ⟨gb194, 6, none⟩ = some (.slice A0_6 l0_6.length c0_6) := (blk_cell BK194.out 6).trans rfl; have hfz9_0 := blk_frozen BK194.out 0; have hfz9_1 := blk_frozen BK194.out 1; have hfz9_2 := blk_frozen BK194.out 2; have hfz9_3 := blk_frozen BK194.out 3; have hfz9_4 := blk_frozen BK194.out 4; have hfz9_5 := blk_frozen BK194.out 5; have hfz9_6 := blk_frozen BK194.out 6))
    go_ret
    exact ⟨by first | rfl | (simp [errW_none, errW_some] <;> rfl) | (simp [*, errW_none, errW_some] <;> rfl), by repeat (first | (with_reducible first | exact HB.out | apply below_alloc | apply pw_below_drewN | apply below_drew1 | refine below_set ?_ GE194.out) | exact HB.out)⟩

def slices_Compare_int_int.l0 : Nat → List Int → List Int → List Int → Int → Int → Option (Int)
  | 0, _, _, _, _, _ => none
  | k + 1, x0, x1, x9, x10, x11 => if x11 < x10 then (if 0 ≤ x11 then (if x11 < (x9.length : Int) then (if x11 ≥ (x1.length : Int) then (some 1) else (if x11 < (x1.length : Int) then ((cmp_Compare_int.f (rd x9 x11) (rd x1 x11)).bind fun t197 => (if t197 = 0 then (slices_Compare_int_int.l0 k x0 x1 x9 x10 (wrap64 (x11 + 1))) else (some t197))) else (none))) else (none)) else (none)) else (if (x0.length : Int) < (x1.length : Int) then (some (-1)) else (some 0))
def slices_Compare_int_int.f (k : Nat) (l0 : List Int) (l1 : List Int) : Option (Int) := slices_Compare_int_int.l0 k l0 l1 l0 (l0.length : Int) 0
set_option maxHeartbeats 8000000 in
set_option maxRecDepth 100000 in
theorem slices_Compare_int_int.calls (k : Nat) (A0 : Option Addr) (c0 : Nat) (l0 : List Int) (A1 : Option Addr) (c1 : Nat) (l1 : List Int) (r : Int) (w : World) (hr0 : Kd.C (Kd.int .i64) w A0 l0.length l0) (hc0 : l0.length ≤ c0) (hr1 : Kd.C (Kd.int .i64) w A1 l1.length l1) (hc1 : l1.length ≤ c1) (h : slices_Compare_int_int.f k l0 l1 = some r) :
    Calls Try.prog 61 #[.slice A0 l0.length c0, .slice A1 l1.length c1] w fun e w' => e = .returned (.int .i64 r) ∧ Drawn0 w w' := by
  have HR0 := Aside0.mk hr0
  have HC0 := Aside0.mk hc0
  clear hr0 hc0
  have HR1 := Aside0.mk hr1
  have HC1 := Aside0.mk hc1
  clear hr1 hc1
  have H : (slices_Compare_int_int.l0 k l0 l1 l0 (l0.length : Int) 0) = some r := h
  clear h
  have H' := Aside0.mk H
  clear H
  go_enter Try.func61, Try.ntmps61
  go_wp2
  go_loopg [11] k (fun kq v11 w' => ∃ (x11_1 : Int), v11 = .int .i64 x11_1 ∧ Aside0 (slices_Compare_int_int.l0 kq l0 l1 l0 (l0.length : Int) x11_1 = some r) ∧ Aside0 (kq ≤ k) ∧ Drawn0 w w')
  case atStart => exact ⟨(0), (by first | rfl | (simp; done) | (simp [*]; done)), H', ⟨Nat.le_refl _⟩, by repeat (first | exact Drawn0.refl _ | apply Drawn0.step)⟩
  case round =>
    clear H'
    try clear c1
    try clear p2
    obtain ⟨x11_1, rfl, HA, HK1, ⟨m1, rfl⟩⟩ := hrel
    cases gk with
    | zero => exact absurd HA.out (by simp [slices_Compare_int_int.l0])
    | succ k1 =>
      have H := HA.out
      clear HA
      simp only [slices_Compare_int_int.l0] at H
      by_cases c3 : x11_1 < (l0.length : Int)
      · rw [if_pos c3] at H
        have c3b0 : decide (x11_1 < (l0.length : Int)) = true := decide_eq_true c3
        clear c3
        by_cases c4 : 0 ≤ x11_1
        · rw [if_pos c4] at H
          have c4b0 : decide (0 ≤ x11_1) = true := decide_eq_true c4
          clear c4
          by_cases c5 : x11_1 < (l0.length : Int)
          · rw [if_pos c5] at H
            have c5b0 : decide (x11_1 < (l0.length : Int)) = true := decide_eq_true c5
            clear c5
            by_cases c6 : x11_1 ≥ (l1.length : Int)
            · rw [if_pos c6] at H
              have c6b0 : decide ((l1.length : Int) ≤ x11_1) = true := decide_eq_true c6
              clear c6
              obtain rfl := Option.some.inj H
              have p195 : 0 ≤ (x11_1 : Int) := of_decide_eq_true (by first | (with_reducible assumption) | assumption)
              have q195 : x11_1 < (l0.length : Int) := of_decide_eq_true (by first | (with_reducible assumption) | assumption)
              obtain ⟨ad195, e195, hx195_0⟩ := Kd.at_int HR0.out x11_1 p195 q195
              cases e195
              replace p195 := eq_true p195
              replace q195 := eq_true q195
              go_wp2
              go_ret
              exact ⟨by first | rfl | (simp; done) | (simp [*]; done), by repeat (first | exact Drawn0.refl _ | apply Drawn0.step)⟩
            · rw [if_neg c6] at H
              have c6b0 : decide ((l1.length : Int) ≤ x11_1) = false := decide_eq_false c6
              clear c6
              by_cases c7 : x11_1 < (l1.length : Int)
              · rw [if_pos c7] at H
                have c7b0 : decide (x11_1 < (l1.length : Int)) = true := decide_eq_true c7
                clear c7
                replace H := Option.bind_eq_some_iff.mp H
                obtain ⟨t197, A80, H⟩ := H
                replace H : (if t197 = 0 then (slices_Compare_int_int.l0 k1 l0 l1 l0 (l0.length : Int) (wrap64 (x11_1 + 1))) else (some t197)) = some r := H
                have A8 := Aside0.mk A80
                clear A80
                by_cases c9 : t197 = 0
                · rw [if_pos c9] at H
                  have c9b0 : (t197 == 0) = true := beq_iff_eq.mpr c9
                  have c9b1 : (t197 != 0) = false := bne_eq_false_iff_eq.mpr c9
                  clear c9
                  have H' := Aside0.mk H
                  clear H
                  have p195 : 0 ≤ (x11_1 : Int) := of_decide_eq_true (by first | (with_reducible assumption) | assumption)
                  have q195 : x11_1 < (l0.length : Int) := of_decide_eq_true (by first | (with_reducible assumption) | assumption)
                  obtain ⟨ad195, e195, hx195_0⟩ := Kd.at_int HR0.out x11_1 p195 q195
                  cases e195
                  replace p195 := eq_true p195
                  replace q195 := eq_true q195
                  have p196 : 0 ≤ (x11_1 : Int) := of_decide_eq_true (by first | (with_reducible assumption) | assumption)
                  have q196 : x11_1 < (l1.length : Int) := of_decide_eq_true (by first | (with_reducible assumption) | assumption)
                  obtain ⟨ad196, e196, hx196_0⟩ := Kd.at_int HR1.out x11_1 p196 q196
                  cases e196
                  replace p196 := eq_true p196
                  replace q196 := eq_true q196
                  go_wp2_with (first | ((with_reducible refine gate_callee (f := 31) rfl ?_); refine goesL_ (some 26) rfl rfl Try.func31 (by kernel_rfl) rfl #[.int .i64 (rd l0 x11_1), .int .i64 (rd l1 x11_1)] rfl (by (try simp only [List.map_toArray, List.map_cons, List.map_nil]); first | done | rfl | (simp only [List.length_drop, List.length_take]; rfl)) ?_; (with_reducible refine (cmp_Compare_int.calls (rd l0 x11_1) (rd l1 x11_1) t197 _ A8.out).mono ?_); rintro e w' ⟨rfl, ⟨nd, rfl⟩⟩; refine ⟨_, rfl, ?_⟩))
                  go_roundg k1
                  case measure => have := HK1.out; omega
                  case rel => exact ⟨(wrap64 (x11_1 + 1)), (by first | rfl | (simp; done) | (simp [*]; done)), H', ⟨by have := HK1.out; omega⟩, by repeat (first | exact Drawn0.refl _ | apply Drawn0.step)⟩
                · rw [if_neg c9] at H
                  have c9b0 : (t197 == 0) = false := beq_eq_false_iff_ne.mpr c9
                  have c9b1 : (t197 != 0) = true := bne_iff_ne.mpr c9
                  obtain rfl := Option.some.inj H
                  have p195 : 0 ≤ (x11_1 : Int) := of_decide_eq_true (by first | (with_reducible assumption) | assumption)
                  have q195 : x11_1 < (l0.length : Int) := of_decide_eq_true (by first | (with_reducible assumption) | assumption)
                  obtain ⟨ad195, e195, hx195_0⟩ := Kd.at_int HR0.out x11_1 p195 q195
                  cases e195
                  replace p195 := eq_true p195
                  replace q195 := eq_true q195
                  have p196 : 0 ≤ (x11_1 : Int) := of_decide_eq_true (by first | (with_reducible assumption) | assumption)
                  have q196 : x11_1 < (l1.length : Int) := of_decide_eq_true (by first | (with_reducible assumption) | assumption)
                  obtain ⟨ad196, e196, hx196_0⟩ := Kd.at_int HR1.out x11_1 p196 q196
                  cases e196
                  replace p196 := eq_true p196
                  replace q196 := eq_true q196
                  go_wp2_with (first | ((with_reducible refine gate_callee (f := 31) rfl ?_); refine goesL_ (some 26) rfl rfl Try.func31 (by kernel_rfl) rfl #[.int .i64 (rd l0 x11_1), .int .i64 (rd l1 x11_1)] rfl (by (try simp only [List.map_toArray, List.map_cons, List.map_nil]); first | done | rfl | (simp only [List.length_drop, List.length_take]; rfl)) ?_; (with_reducible refine (cmp_Compare_int.calls (rd l0 x11_1) (rd l1 x11_1) t197 _ A8.out).mono ?_); rintro e w' ⟨rfl, ⟨nd, rfl⟩⟩; refine ⟨_, rfl, ?_⟩))
                  go_ret
                  exact ⟨by first | rfl | (simp; done) | (simp [*]; done), by repeat (first | exact Drawn0.refl _ | apply Drawn0.step)⟩
              · rw [if_neg c7] at H
                exact absurd H (by simp)
          · rw [if_neg c5] at H
            exact absurd H (by simp)
        · rw [if_neg c4] at H
          exact absurd H (by simp)
      · rw [if_neg c3] at H
        have c3b0 : decide (x11_1 < (l0.length : Int)) = false := decide_eq_false c3
        clear c3
        by_cases c10 : (l0.length : Int) < (l1.length : Int)
        · rw [if_pos c10] at H
          have c10b0 : decide ((l0.length : Int) < (l1.length : Int)) = true := decide_eq_true c10
          have c10b1 : decide (l0.length < l1.length) = true := decide_eq_true (Int.ofNat_lt.mp c10)
          clear c10
          obtain rfl := Option.some.inj H
          go_wp2
          go_ret
          exact ⟨by first | rfl | (simp; done) | (simp [*]; done), by repeat (first | exact Drawn0.refl _ | apply Drawn0.step)⟩
        · rw [if_neg c10] at H
          have c10b0 : decide ((l0.length : Int) < (l1.length : Int)) = false := decide_eq_false c10
          have c10b1 : decide (l0.length < l1.length) = false := decide_eq_false (fun h => c10 (Int.ofNat_lt.mpr h))
          clear c10
          obtain rfl := Option.some.inj H
          go_wp2
          go_ret
          exact ⟨by first | rfl | (simp; done) | (simp [*]; done), by repeat (first | exact Drawn0.refl _ | apply Drawn0.step)⟩

def aspath_Compare.f (k : Nat) (l0 : List Int) (l1 : List Int) : Option (Int) := (cmp_Compare_int.f (l0.length : Int) (l1.length : Int)).bind fun t198 => ((slices_Compare_int_int.f k l0 l1).bind fun t199 => ((cmp_Or_int.f k (([t198, t199] : List Int))).bind fun t203 => (some t203)))
set_option maxHeartbeats 8000000 in
set_option maxRecDepth 100000 in
theorem aspath_Compare.calls (k : Nat) (A0 : Option Addr) (c0 : Nat) (l0 : List Int) (A1 : Option Addr) (c1 : Nat) (l1 : List Int) (r : Int) (w : World) (hr0 : Kd.C (Kd.int .i64) w A0 l0.length l0) (hc0 : l0.length ≤ c0) (hr1 : Kd.C (Kd.int .i64) w A1 l1.length l1) (hc1 : l1.length ≤ c1) (h : aspath_Compare.f k l0 l1 = some r) :
    Calls Try.prog 32 #[.slice A0 l0.length c0, .slice A1 l1.length c1] w fun e w' => e = .returned (.int .i64 r) ∧ Below w.heap.size w w' := by
  have HR0 := Aside0.mk hr0
  have HC0 := Aside0.mk hc0
  clear hr0 hc0
  have HR1 := Aside0.mk hr1
  have HC1 := Aside0.mk hc1
  clear hr1 hc1
  have HB := Aside0.mk (Below.refl w.heap.size w)
  have H : ((cmp_Compare_int.f (l0.length : Int) (l1.length : Int)).bind fun t198 => ((slices_Compare_int_int.f k l0 l1).bind fun t199 => ((cmp_Or_int.f k (([t198, t199] : List Int))).bind fun t203 => (some t203)))) = some r := h
  clear h
  replace H := Option.bind_eq_some_iff.mp H
  obtain ⟨t198, A30, H⟩ := H
  replace H : ((slices_Compare_int_int.f k l0 l1).bind fun t199 => ((cmp_Or_int.f k (([t198, t199] : List Int))).bind fun t203 => (some t203))) = some r := H
  have A3 := Aside0.mk A30
  clear A30
  replace H := Option.bind_eq_some_iff.mp H
  obtain ⟨t199, A40, H⟩ := H
  replace H : ((cmp_Or_int.f k (([t198, t199] : List Int))).bind fun t203 => (some t203)) = some r := H
  have A4 := Aside0.mk A40
  clear A40
  obtain ⟨y200, hy200⟩ : ∃ y_ : List Int, y_ = (([t198, t199] : List Int)) := ⟨_, rfl⟩
  replace H : ((cmp_Or_int.f k y200).bind fun t203 => (some t203)) = some r := by first | (rw [hy200]; with_reducible exact H) | (have H2_ := (Option.bind_some _ _).symm.trans H; rw [hy200]; with_reducible exact H2_) | (have H2_ := (Option.bind_some _ _).symm.trans H; with_reducible exact H2_) | with_reducible exact H | (rw [hy200]; exact H) | exact H
  have Ny200 := Aside0.mk hy200
  clear hy200
  replace H := Option.bind_eq_some_iff.mp H
  obtain ⟨t203, A50, H⟩ := H
  replace H : (some t203) = some r := H
  have A5 := Aside0.mk A50
  clear A50
  obtain rfl := Option.some.inj H
  go_enter Try.func32, Try.ntmps32
  go_wp2_with (first | ((with_reducible refine gate_callee (f := 31) rfl ?_); refine goesL_ (some 9) rfl rfl Try.func31 (by kernel_rfl) rfl #[.int .i64 (l0.length : Int), .int .i64 (l1.length : Int)] rfl (by (try simp only [List.map_toArray, List.map_cons, List.map_nil]); first | done | rfl | (simp only [List.length_drop, List.length_take]; rfl)) ?_; (with_reducible refine (cmp_Compare_int.calls (l0.length : Int) (l1.length : Int) t198 _ A3.out).mono ?_); rintro e w' ⟨rfl, ⟨nd, rfl⟩⟩; refine ⟨_, rfl, ?_⟩) | ((with_reducible refine gate_callee (f := 61) rfl ?_); refine goesL_ (some 12) rfl rfl Try.func61 (by kernel_rfl) rfl #[.slice A0 l0.length c0, .slice A1 l1.length c1] rfl (by (try simp only [List.map_toArray, List.map_cons, List.map_nil]); first | done | rfl | (simp only [List.length_drop, List.length_take]; rfl)) ?_; (with_reducible refine (slices_Compare_int_int.calls k _ _ l0 _ _ l1 t199 _ ?side1 ?side2 ?side3 ?side4 A4.out).mono ?_); (case side1 => repeat (first | exact HR0.out | (with_reducible refine Kd.C_alloc ?_ _) | (with_reducible refine Kd.C_drewN ?_ _) | (with_reducible refine Kd.C_drew ?_))); (case side2 => exact HC0.out); (case side3 => repeat (first | exact HR1.out | (with_reducible refine Kd.C_alloc ?_ _) | (with_reducible refine Kd.C_drewN ?_ _) | (with_reducible refine Kd.C_drew ?_))); (case side4 => exact HC1.out); rintro e w' ⟨rfl, ⟨nd, rfl⟩⟩; refine ⟨_, rfl, ?_⟩) | ((with_reducible refine gate_dst (N := 13) rfl ?_); refine Kd.R_lit (Kd.int .i64) _ 3 ?hg (N := 13) ?hd (xs := ([t198, t199] : List Int)) (inner := [.int .i64 t198, .int .i64 t199]) (ok := fun _ => True) (okp := fun _ => True) ?hr ?hp (fun _ hk => hk) trivial (Below.refl _ _) (Nat.le_refl _) (by simp) ?_; (case hd => rfl); (case hg => rfl); (case hr => first | (go_simp; done) | (go_simp; rfl)); (case hp => exact (Reps.one (show Kd.M (Kd.int .i64) _ _ _ t198 [.int .i64 t198] from rfl) (Reps.one (show Kd.M (Kd.int .i64) _ _ _ t199 [.int .i64 t199] from rfl) (Reps.none _ _)))); intro v201 w6 ho7 hb hg_ hnew_; clear hg_ hnew_; (first | rw [← Ny200.out] at ho7 | (simp only [Int.reduceToNat] at ho7; rw [← Ny200.out] at ho7)); have n0_ := Aside0.mk (Kd.R_lower ho7 (below_size (by repeat (first | (with_reducible first | exact HB.out | apply below_alloc | apply pw_below_drewN | apply below_drew1) | exact HB.out)))); have n1_ := Aside0.mk (below_step (by repeat (first | (with_reducible first | exact HB.out | apply below_alloc | apply pw_below_drewN | apply below_drew1) | exact HB.out)) hb); clear HB; have HO202 := n0_; have HB := n1_; clear n0_ n1_; clear hb ho7; obtain ⟨Ao8, co8, eo8⟩ := Kd.R_slice HO202.out; subst eo8) | ((with_reducible refine gate_callee (f := 30) rfl ?_); refine goesL_ (some 14) rfl rfl Try.func30 (by kernel_rfl) rfl #[.slice Ao8 y200.length co8] rfl (by (try simp only [List.map_toArray, List.map_cons, List.map_nil]); first | done | rfl | (simp only [List.length_drop, List.length_take]; rfl)) ?_; (with_reducible refine (cmp_Or_int.calls k _ _ y200 t203 _ ?side1 ?side2 A5.out).mono ?_); (case side1 => repeat (first | exact (Kd.R_reads' HO202.out).2.2 | (with_reducible refine Kd.C_alloc ?_ _) | (with_reducible refine Kd.C_drewN ?_ _) | (with_reducible refine Kd.C_drew ?_))); (case side2 => exact (Kd.R_reads' HO202.out).2.1); rintro e w' ⟨rfl, ⟨nd, rfl⟩⟩; refine ⟨_, rfl, ?_⟩))
  go_ret
  exact ⟨by first | rfl | (simp [errW_none, errW_some] <;> rfl) | (simp [*, errW_none, errW_some] <;> rfl), by repeat (first | (with_reducible first | exact HB.out | apply below_alloc | apply pw_below_drewN | apply below_drew1) | exact HB.out)⟩

def cmpI (a b : Int) : Int := if a < b then -1 else if b < a then 1 else 0
def orI (a b : Int) : Int := if a ≠ 0 then a else b
def ordC (x y : S63) : Int := orI (cmpI x.f0 y.f0) (cmpI x.f1 y.f1)
theorem cmpI_is (a b : Int) : cmp_Compare_int.f a b = some (cmpI a b) := by
  unfold cmp_Compare_int.f cmpI
  by_cases h1 : a < b
  · simp [h1, cmp_isNaN_int.f]
  · by_cases h2 : b < a
    · simp [h1, h2, cmp_isNaN_int.f]
    · simp [h1, h2, cmp_isNaN_int.f]
theorem orI_is (a b : Int) : cmp_Or_int.f 4 [a, b] = some (orI a b) := by
  unfold orI
  by_cases h : a = 0
  · by_cases h2 : b = 0 <;> simp [cmp_Or_int.f, cmp_Or_int.l0, rd, h, h2, wrap64]
  · simp [cmp_Or_int.f, cmp_Or_int.l0, rd, h, wrap64]
theorem ordC_is (x y : S63) : comm_order.f 4 x.f0 x.f1 y.f0 y.f1 = some (ordC x y) := by
  unfold comm_order.f ordC
  rw [cmpI_is, Option.bind_some, cmpI_is, Option.bind_some, orI_is, Option.bind_some]
def cmpCL (a b : List S63) : Int := orI (cmpI a.length b.length) (cmpLst ordC a b)
def comm_Compare.f (l0 : List S63) (l1 : List S63) : Option Int := some (cmpCL l0 l1)
set_option maxHeartbeats 2000000 in
set_option maxRecDepth 100000 in
theorem comm_Compare.calls (A0 : Option Addr) (c0 : Nat) (l0 : List S63) (A1 : Option Addr) (c1 : Nat) (l1 : List S63) (r : Int) (w : World) (hr0 : Kd.C k63 w A0 l0.length l0) (hc0 : l0.length ≤ c0) (hr1 : Kd.C k63 w A1 l1.length l1) (hc1 : l1.length ≤ c1) (h : comm_Compare.f l0 l1 = some r) :
    Calls Try.prog 33 #[.slice A0 l0.length c0, .slice A1 l1.length c1] w fun e w' => e = .returned (.int .i64 r) ∧ Below w.heap.size w w' := by
  unfold comm_Compare.f cmpCL at h
  have H := mkHid (Option.some.inj h)
  have HF := mkHid (fun W hq0 hq1 => cmpf_Comm 63 ordC (fun _ _ => by go_simp) (fun x y W => comm_order.calls 4 x.f0 x.f1 y.f0 y.f1 _ W (ordC_is x y)) A0 c0 l0 A1 c1 l1 W hq0 hq1)
  have HR0 := mkHid hr0
  have HR1 := mkHid hr1
  have HQ := mkHid (fun W => cmp_Compare_int.calls (l0.length : Int) (l1.length : Int) _ W (cmpI_is _ _))
  clear h hr0 hr1
  generalize cmpLst ordC l0 l1 = q at *
  generalize cmpI (l0.length : Int) (l1.length : Int) = p at *
  go_enter Try.func33, Try.ntmps33
  go_wp2_with fail
  refine (HQ.out _).mono ?_
  rintro e w1 ⟨rfl, hb1⟩
  have hb1' : Below w.heap.size w w1 := by first | exact hb1 | exact hb1.below
  have HB1 := mkHid hb1'
  clear hb1 hb1'
  go_wp2_with fail
  refine (HF.out _ (Kd.C_below HR0.out HB1.out) (Kd.C_below HR1.out HB1.out)).mono ?_
  rintro e w2 ⟨rfl, hb2⟩
  have HB2 : Hid (Below w.heap.size w w2) := below_step HB1.out hb2
  clear hb2
  go_wp2_with fail
  refine (cmp_Or_int.calls 4 _ 2 [p, q] (orI p q) _ ?_ (by simp) (orI_is p q)).mono ?_
  · exact C_lit .i64 _ [p, q] _ (by simp)
  rintro e w3 ⟨rfl, hb3⟩
  have hb3' : Below w.heap.size w w3 := by first | exact below_step (below_alloc HB2.out _) hb3 | exact below_step (below_alloc HB2.out _) hb3.below
  have HB3 := mkHid hb3'
  clear hb3 hb3'
  go_wp2_with fail
  go_ret
  exact ⟨by rw [← H.out]; rfl, HB3.out⟩

end Go.Proofs.Ytnnlbofmlfafhaa.P

end
section
namespace Go.Proofs.Ytnnlbofmlfafhaa.P
open Go.RowKit Go.Proofs.YtnnlbofmlfafhaaW.PrintWords Go.Proofs.YtnnlbofmlfafhaaW.PrintLast Go.Proofs.YtnnlbofmlfafhaaW.PrintMore
attribute [local go_sem] max2_int min2_int max_two min_two max_three min_three max_four min_four   -- for this text's walks alone
set_option linter.unusedVariables false
set_option linter.unusedSimpArgs false

def attr_Compare.f (k : Nat) (a0_0 : Int) (a0_1 : Int) (a0_2 : Int) (l0_3 : List Int) (l0_4 : List (S63)) (a0_5 : Int) (l0_6 : List Int) (a1_0 : Int) (a1_1 : Int) (a1_2 : Int) (l1_3 : List Int) (l1_4 : List (S63)) (a1_5 : Int) (l1_6 : List Int) : Option (Int) := (cmp_Compare_int.f a0_0 a1_0).bind fun t206 => ((cmp_Compare_int.f a0_1 a1_1).bind fun t207 => ((cmp_Compare_int.f a0_2 a1_2).bind fun t208 => ((aspath_Compare.f k l0_3 l1_3).bind fun t209 => ((comm_Compare.f l0_4 l1_4).bind fun t210 => ((cmp_Compare_int.f a0_5 a1_5).bind fun t211 => ((aspath_Compare.f k l0_6 l1_6).bind fun t212 => ((cmp_Or_int.f k (([t206, t207, t208, t209, t210, t211, t212] : List Int))).bind fun t216 => (some t216))))))))
def attr_Compare.T1 : Bool × List (List Nat × List Nat) := (true, [([], []), ([0], [0]), ([], []), ([2], [2]), ([1, 3], [1, 3]), ([], []), ([5], [5]), ([], []), ([7], [7]), ([6, 8, 4], [6, 8]), ([], []), ([10], [10]), ([], []), ([12], [12]), ([11, 13, 9], [11, 13]), ([], []), ([15], [15]), ([], []), ([17], [17]), ([16, 18, 14], [16, 18]), ([], []), ([20], [20]), ([], []), ([22], [22]), ([21, 23, 19], [21, 23]), ([], []), ([25], [25]), ([], []), ([27], [27]), ([26, 28, 24], [26, 28]), ([], []), ([30], [30]), ([], []), ([32], [32]), ([31, 33, 29], [31, 33]), ([4, 9, 14, 19, 24, 29, 34], [4, 9, 14, 19, 24, 29, 34]), ([35, 34], [35]), ([36, 36, 0, 1, 2, 3, 4, 5, 6, 7, 8, 9, 10, 11, 12, 13, 14, 15, 16, 17, 18, 19, 20, 21, 22, 23, 24, 25, 26, 27, 28, 29, 30, 31, 32, 33, 34, 35, 36], [36])])
def attr_Compare.B1 : List Nat := [0, 1, 0, 4, 15, 0, 32, 0, 128, 511, 0, 1024, 0, 4096, 16383, 0, 32768, 0, 131072, 524287, 0, 1048576, 0, 4194304, 16777215, 0, 33554432, 0, 134217728, 536870911, 0, 1073741824, 0, 4294967296, 17179869183, 34359738367, 68719476735, 137438953471]
theorem attr_Compare.tab1 : rtab .any (opsOf Try.f12 1) = attr_Compare.T1 := by kernel_rfl
theorem attr_Compare.bits1 : waitsOk attr_Compare.T1.2 attr_Compare.B1 = true := by kernel_rfl
theorem k0d5d.b7 {W : World} {g : Nat} {v0 v1 v2 v3 v4 v5 v6 : Value} {t : TypeId} (h : W.heap[g]? = some (.cells #[v0, v1, v2, v3, v4, v5, v6] t (0, 0))) {R : Prop} (r : R) : W.cell? ⟨g, 0, none⟩ = some v0 ∧ W.cell? ⟨g, 1, none⟩ = some v1 ∧ W.cell? ⟨g, 2, none⟩ = some v2 ∧ W.cell? ⟨g, 3, none⟩ = some v3 ∧ W.cell? ⟨g, 4, none⟩ = some v4 ∧ W.cell? ⟨g, 5, none⟩ = some v5 ∧ W.cell? ⟨g, 6, none⟩ = some v6 ∧ R :=
  ⟨(blk_cell h 0).trans rfl, (blk_cell h 1).trans rfl, (blk_cell h 2).trans rfl, (blk_cell h 3).trans rfl, (blk_cell h 4).trans rfl, (blk_cell h 5).trans rfl, (blk_cell h 6).trans rfl, r⟩
theorem k0d5d.b7e {W : World} {g : Nat} {v0 v1 v2 v3 v4 v5 v6 : Value} {t : TypeId} (h : W.heap[g]? = some (.cells #[v0, v1, v2, v3, v4, v5, v6] t (0, 0))) : W.cell? ⟨g, 0, none⟩ = some v0 ∧ W.cell? ⟨g, 1, none⟩ = some v1 ∧ W.cell? ⟨g, 2, none⟩ = some v2 ∧ W.cell? ⟨g, 3, none⟩ = some v3 ∧ W.cell? ⟨g, 4, none⟩ = some v4 ∧ W.cell? ⟨g, 5, none⟩ = some v5 ∧ W.cell? ⟨g, 6, none⟩ = some v6 :=
  ⟨(blk_cell h 0).trans rfl, (blk_cell h 1).trans rfl, (blk_cell h 2).trans rfl, (blk_cell h 3).trans rfl, (blk_cell h 4).trans rfl, (blk_cell h 5).trans rfl, (blk_cell h 6).trans rfl⟩
@[reducible] def k0d5d.S0 (g0 g1 : Nat) (v0 v1 v2 v3 v4 v5 v6 v7 v8 v9 v10 v11 v12 v13 : Value) (w' : World) : Prop := w'.cell? ⟨g0, 0, none⟩ = some v0 ∧ w'.cell? ⟨g0, 1, none⟩ = some v1 ∧ w'.cell? ⟨g0, 2, none⟩ = some v2 ∧ w'.cell? ⟨g0, 3, none⟩ = some v3 ∧ w'.cell? ⟨g0, 4, none⟩ = some v4 ∧ w'.cell? ⟨g0, 5, none⟩ = some v5 ∧ w'.cell? ⟨g0, 6, none⟩ = some v6 ∧ w'.cell? ⟨g1, 0, none⟩ = some v7 ∧ w'.cell? ⟨g1, 1, none⟩ = some v8 ∧ w'.cell? ⟨g1, 2, none⟩ = some v9 ∧ w'.cell? ⟨g1, 3, none⟩ = some v10 ∧ w'.cell? ⟨g1, 4, none⟩ = some v11 ∧ w'.cell? ⟨g1, 5, none⟩ = some v12 ∧ w'.cell? ⟨g1, 6, none⟩ = some v13
set_option maxHeartbeats 8000000 in
set_option maxRecDepth 100000 in
theorem attr_Compare.calls (k : Nat) (am : Int) (an : Int) (ao : Int) (A0_3 : Option Addr) (c0_3 : Nat) (ag : List Int) (A0_4 : Option Addr) (c0_4 : Nat) (ah : List (S63)) (ap : Int) (A0_6 : Option Addr) (c0_6 : Nat) (ai : List Int) (a1_0 : Int) (a1_1 : Int) (a1_2 : Int) (A1_3 : Option Addr) (c1_3 : Nat) (aj : List Int) (A1_4 : Option Addr) (c1_4 : Nat) (ak : List (S63)) (a1_5 : Int) (A1_6 : Option Addr) (c1_6 : Nat) (al : List Int) (r : Int) (w : World) (hr0_3 : Kd.C (Kd.int .i64) w A0_3 ag.length ag) (hc0_3 : ag.length ≤ c0_3) (hr0_4 : Kd.C k63 w A0_4 ah.length ah) (hc0_4 : ah.length ≤ c0_4) (hr0_6 : Kd.C (Kd.int .i64) w A0_6 ai.length ai) (hc0_6 : ai.length ≤ c0_6) (hr1_3 : Kd.C (Kd.int .i64) w A1_3 aj.length aj) (hc1_3 : aj.length ≤ c1_3) (hr1_4 : Kd.C k63 w A1_4 ak.length ak) (hc1_4 : ak.length ≤ c1_4) (hr1_6 : Kd.C (Kd.int .i64) w A1_6 al.length al) (hc1_6 : al.length ≤ c1_6) (h : attr_Compare.f k am an ao ag ah ap ai a1_0 a1_1 a1_2 aj ak a1_5 al = some r) :
  Calls Try.prog 12 #[.agg #[.int .i64 am, .int .i64 an, .int .i64 ao, .slice A0_3 ag.length c0_3, .slice A0_4 ah.length c0_4, .int .i64 ap, .slice A0_6 ai.length c0_6], .agg #[.int .i64 a1_0, .int .i64 a1_1, .int .i64 a1_2, .slice A1_3 aj.length c1_3, .slice A1_4 ak.length c1_4, .int .i64 a1_5, .slice A1_6 al.length c1_6]] w fun e w' => e = .returned (.int .i64 r) ∧ Below w.heap.size w w' := by
 have hu30 := Try.underlying30
 have HR0_3 := Aside0.mk hr0_3
 have HC0_3 := Aside0.mk hc0_3
 clear hr0_3 hc0_3
 have HR0_4 := Aside0.mk hr0_4
 have HC0_4 := Aside0.mk hc0_4
 clear hr0_4 hc0_4
 have HR0_6 := Aside0.mk hr0_6
 have HC0_6 := Aside0.mk hc0_6
 clear hr0_6 hc0_6
 have HR1_3 := Aside0.mk hr1_3
 have HC1_3 := Aside0.mk hc1_3
 clear hr1_3 hc1_3
 have HR1_4 := Aside0.mk hr1_4
 have HC1_4 := Aside0.mk hc1_4
 clear hr1_4 hc1_4
 have HR1_6 := Aside0.mk hr1_6
 have HC1_6 := Aside0.mk hc1_6
 clear hr1_6 hc1_6
 have HB := Aside0.mk (Below.refl w.heap.size w)
 have H := h
 unfold attr_Compare.f at H
 clear h
 replace H := Option.bind_eq_some_iff.mp H
 obtain ⟨t206, A30, H⟩ := H
 (try dsimp only at H)
 have A3 := Aside0.mk A30
 clear A30
 replace H := Option.bind_eq_some_iff.mp H
 obtain ⟨t207, A40, H⟩ := H
 (try dsimp only at H)
 have A4 := Aside0.mk A40
 clear A40
 replace H := Option.bind_eq_some_iff.mp H
 obtain ⟨t208, A50, H⟩ := H
 (try dsimp only at H)
 have A5 := Aside0.mk A50
 clear A50
 replace H := Option.bind_eq_some_iff.mp H
 obtain ⟨t209, A60, H⟩ := H
 (try dsimp only at H)
 have A6 := Aside0.mk A60
 clear A60
 replace H := Option.bind_eq_some_iff.mp H
 obtain ⟨t210, A70, H⟩ := H
 (try dsimp only at H)
 have A7 := Aside0.mk A70
 clear A70
 replace H := Option.bind_eq_some_iff.mp H
 obtain ⟨t211, A80, H⟩ := H
 (try dsimp only at H)
 have A8 := Aside0.mk A80
 clear A80
 replace H := Option.bind_eq_some_iff.mp H
 obtain ⟨t212, A90, H⟩ := H
 (try dsimp only at H)
 have A9 := Aside0.mk A90
 clear A90
 obtain ⟨y213, hy213⟩ : ∃ y_ : List Int, y_ = (([t206, t207, t208, t209, t210, t211, t212] : List Int)) := ⟨_, rfl⟩
 replace H : ((cmp_Or_int.f k y213).bind fun t216 => (some t216)) = some r := by first | (rw [hy213]; with_reducible exact H) | (have H2_ := (Option.bind_some _ _).symm.trans H; rw [hy213]; with_reducible exact H2_) | (have H2_ := (Option.bind_some _ _).symm.trans H; with_reducible exact H2_) | with_reducible exact H | (rw [hy213]; exact H) | exact H
 have Ny213 := Aside0.mk hy213
 clear hy213
 replace H := Option.bind_eq_some_iff.mp H
 obtain ⟨t216, A100, H⟩ := H
 replace H : (some t216) = some r := H
 have A10 := Aside0.mk A100
 clear A100
 obtain rfl := Option.some.inj H
 go_enter Try.func12, Try.ntmps12
 try go_wp2_with (first | ((with_reducible refine gate_dst (N := 2) rfl ?_); refine box_event ?hg (N := 2) ?hd (cs := #[.int .i64 am, .int .i64 an, .int .i64 ao, .slice A0_3 ag.length c0_3, .slice A0_4 ah.length c0_4, .int .i64 ap, .slice A0_6 ai.length c0_6]) (t := 30) ?hr ?_; (case hd => rfl); (case hg => rfl); (case hr => first | (go_simp; done) | (go_simp; rfl)); intro ad hg w11 hbox hb; have n0_ := Aside0.mk (below_step (by repeat (first | (with_reducible first | exact HB.out | apply below_alloc | apply pw_below_drewN | apply below_drew1) | exact HB.out)) hb); have n1_ := Aside0.mk (hbox); have n2_ := Aside0.mk ((by rw [hg]; exact (below_size (by repeat (first | (with_reducible first | exact HB.out | apply below_alloc | apply pw_below_drewN | apply below_drew1) | exact HB.out))) : w.heap.size ≤ ad)); have n3_ := Aside0.mk ((by rw [hg]; exact (below_size (by repeat (first | (with_reducible first | exact HB.out | apply below_alloc | apply pw_below_drewN | apply below_drew1) | exact HB.out))) : w.heap.size ≤ ad)); clear HB; have HB := n0_; have aa := n1_; have GW204 := n2_; have ac := n3_; clear n0_ n1_ n2_ n3_; clear hb hbox hg) | ((with_reducible refine gate_dst (N := 3) rfl ?_); refine box_event ?hg (N := 3) ?hd (cs := #[.int .i64 a1_0, .int .i64 a1_1, .int .i64 a1_2, .slice A1_3 aj.length c1_3, .slice A1_4 ak.length c1_4, .int .i64 a1_5, .slice A1_6 al.length c1_6]) (t := 30) ?hr ?_; (case hd => rfl); (case hg => rfl); (case hr => first | (go_simp; done) | (go_simp; rfl)); intro af hg w12 hbox hb; have n0_ := Aside0.mk (blk_below (g := ad) (by (with_reducible repeat (first | refine blk_drewN ?_ _ | refine blk_drew ?_ | refine blk_alloc ?_ _)); exact aa.out) hb); have n1_ := Aside0.mk (below_step (by repeat (first | (with_reducible first | exact HB.out | apply below_alloc | apply pw_below_drewN | apply below_drew1 | refine below_set ?_ ac.out) | exact HB.out)) hb); have n2_ := Aside0.mk (hbox); have n3_ := Aside0.mk ((by rw [hg]; exact (below_size (by repeat (first | (with_reducible first | exact HB.out | apply below_alloc | apply pw_below_drewN | apply below_drew1 | refine below_set ?_ ac.out) | exact HB.out))) : w.heap.size ≤ af)); have n4_ := Aside0.mk ((by rw [hg]; exact (below_size (by repeat (first | (with_reducible first | exact HB.out | apply below_alloc | apply pw_below_drewN | apply below_drew1 | refine below_set ?_ ac.out) | exact HB.out))) : w.heap.size ≤ af)); have n5_ := Aside0.mk ((by rw [hg]; exact Nat.ne_of_lt (blk_lt (g := ad) (o := .cells #[.int .i64 am, .int .i64 an, .int .i64 ao, .slice A0_3 ag.length c0_3, .slice A0_4 ah.length c0_4, .int .i64 ap, .slice A0_6 ai.length c0_6] 30 (0, 0)) (by (with_reducible repeat (first | refine blk_drewN ?_ _ | refine blk_drew ?_ | refine blk_alloc ?_ _)); exact aa.out)) : ad ≠ af)); have n6_ := Aside0.mk ((by rw [hg]; exact Nat.ne_of_gt (blk_lt (g := ad) (o := .cells #[.int .i64 am, .int .i64 an, .int .i64 ao, .slice A0_3 ag.length c0_3, .slice A0_4 ah.length c0_4, .int .i64 ap, .slice A0_6 ai.length c0_6] 30 (0, 0)) (by (with_reducible repeat (first | refine blk_drewN ?_ _ | refine blk_drew ?_ | refine blk_alloc ?_ _)); exact aa.out)) : af ≠ ad)); clear aa; clear HB; have aa := n0_; have HB := n1_; have ab := n2_; have GW205 := n3_; have ae := n4_; have NB204_205 := n5_; have NB205_204 := n6_; clear n0_ n1_ n2_ n3_ n4_ n5_ n6_; clear hb hbox hg))
 have n0_ := Aside0.mk (blk_drew aa.out)
 have n1_ := Aside0.mk (blk_drew ab.out)
 have n2_ := Aside0.mk (below_drew1 HB.out)
 clear aa
 clear ab
 clear HB
 have aa := n0_
 have ab := n1_
 have HB := n2_
 clear n0_ n1_ n2_
 refine start_ (n := 38) (S := k0d5d.S0 ad af (.int .i64 am) (.int .i64 an) (.int .i64 ao) (.slice A0_3 ag.length c0_3) (.slice A0_4 ah.length c0_4) (.int .i64 ap) (.slice A0_6 ai.length c0_6) (.int .i64 a1_0) (.int .i64 a1_1) (.int .i64 a1_2) (.slice A1_3 aj.length c1_3) (.slice A1_4 ak.length c1_4) (.int .i64 a1_5) (.slice A1_6 al.length c1_6)) (ds := []) #[false, false, false, false, false, false, false, false, false, false, false, false, false, false, false, false, false, false, false, false, false, false, false, false, false, false, false, false, false, false, false, false, false, false, false, false, false, false] (by kernel_rfl) rfl rfl (k0d5d.b7 aa.out (k0d5d.b7e ab.out)) (fun hHeld => ?_); refine with_tabW attr_Compare.tab1 attr_Compare.bits1 (fun HT_ HW_ => ?_)
 generalize w12.drew = w13 at aa ab HB hHeld ⊢
 refine pure_ (i := 0) (N := some 5) (v := ?_) (a' := ?_) #[true, false, false, false, false, false, false, false, false, false, false, false, false, false, false, false, false, false, false, false, false, false, false, false, false, false, false, false, false, false, false, false, false, false, false, false, false, false] rfl rfl (any_of HT_.out (by kernel_rfl)) (fun _ _ _ h => h) (Or.inl ⟨by rfl, ?_⟩) ?_ ?_
 rotate_left
 ·intro w'
  go_simp
  with_reducible rfl
 rotate_left
 ·simp only [Act.put, List.setIfInBounds_toArray, List.set_cons_zero, List.set_cons_succ, i64_w, i32_w]
  rfl
 refine pure_ (i := 2) (N := some 7) (v := ?_) (a' := ?_) #[true, false, true, false, false, false, false, false, false, false, false, false, false, false, false, false, false, false, false, false, false, false, false, false, false, false, false, false, false, false, false, false, false, false, false, false, false, false] rfl rfl (any_of HT_.out (by kernel_rfl)) (fun _ _ _ h => h) (Or.inl ⟨by rfl, ?_⟩) ?_ ?_
 rotate_left
 ·intro w'
  go_simp
  with_reducible rfl
 rotate_left
 ·simp only [Act.put, List.setIfInBounds_toArray, List.set_cons_zero, List.set_cons_succ, i64_w, i32_w]
  rfl
 refine pure_ (i := 5) (N := some 10) (v := ?_) (a' := ?_) #[true, false, true, false, false, true, false, false, false, false, false, false, false, false, false, false, false, false, false, false, false, false, false, false, false, false, false, false, false, false, false, false, false, false, false, false, false, false] rfl rfl (any_of HT_.out (by kernel_rfl)) (fun _ _ _ h => h) (Or.inl ⟨by rfl, ?_⟩) ?_ ?_
 rotate_left
 ·intro w'
  go_simp
  with_reducible rfl
 rotate_left
 ·simp only [Act.put, List.setIfInBounds_toArray, List.set_cons_zero, List.set_cons_succ, i64_w, i32_w]
  rfl
 refine pure_ (i := 7) (N := some 12) (v := ?_) (a' := ?_) #[true, false, true, false, false, true, false, true, false, false, false, false, false, false, false, false, false, false, false, false, false, false, false, false, false, false, false, false, false, false, false, false, false, false, false, false, false, false] rfl rfl (any_of HT_.out (by kernel_rfl)) (fun _ _ _ h => h) (Or.inl ⟨by rfl, ?_⟩) ?_ ?_
 rotate_left
 ·intro w'
  go_simp
  with_reducible rfl
 rotate_left
 ·simp only [Act.put, List.setIfInBounds_toArray, List.set_cons_zero, List.set_cons_succ, i64_w, i32_w]
  rfl
 refine pure_ (i := 10) (N := some 15) (v := ?_) (a' := ?_) #[true, false, true, false, false, true, false, true, false, false, true, false, false, false, false, false, false, false, false, false, false, false, false, false, false, false, false, false, false, false, false, false, false, false, false, false, false, false] rfl rfl (any_of HT_.out (by kernel_rfl)) (fun _ _ _ h => h) (Or.inl ⟨by rfl, ?_⟩) ?_ ?_
 rotate_left
 ·intro w'
  go_simp
  with_reducible rfl
 rotate_left
 ·simp only [Act.put, List.setIfInBounds_toArray, List.set_cons_zero, List.set_cons_succ, i64_w, i32_w]
  rfl
 refine pure_ (i := 12) (N := some 17) (v := ?_) (a' := ?_) #[true, false, true, false, false, true, false, true, false, false, true, false, true, false, false, false, false, false, false, false, false, false, false, false, false, false, false, false, false, false, false, false, false, false, false, false, false, false] rfl rfl (any_of HT_.out (by kernel_rfl)) (fun _ _ _ h => h) (Or.inl ⟨by rfl, ?_⟩) ?_ ?_
 rotate_left
 ·intro w'
  go_simp
  with_reducible rfl
 rotate_left
 ·simp only [Act.put, List.setIfInBounds_toArray, List.set_cons_zero, List.set_cons_succ, i64_w, i32_w]
  rfl
 refine pure_ (i := 15) (N := some 20) (v := ?_) (a' := ?_) #[true, false, true, false, false, true, false, true, false, false, true, false, true, false, false, true, false, false, false, false, false, false, false, false, false, false, false, false, false, false, false, false, false, false, false, false, false, false] rfl rfl (any_of HT_.out (by kernel_rfl)) (fun _ _ _ h => h) (Or.inl ⟨by rfl, ?_⟩) ?_ ?_
 rotate_left
 ·intro w'
  go_simp
  with_reducible rfl
 rotate_left
 ·simp only [Act.put, List.setIfInBounds_toArray, List.set_cons_zero, List.set_cons_succ, i64_w, i32_w]
  rfl
 refine pure_ (i := 17) (N := some 22) (v := ?_) (a' := ?_) #[true, false, true, false, false, true, false, true, false, false, true, false, true, false, false, true, false, true, false, false, false, false, false, false, false, false, false, false, false, false, false, false, false, false, false, false, false, false] rfl rfl (any_of HT_.out (by kernel_rfl)) (fun _ _ _ h => h) (Or.inl ⟨by rfl, ?_⟩) ?_ ?_
 rotate_left
 ·intro w'
  go_simp
  with_reducible rfl
 rotate_left
 ·simp only [Act.put, List.setIfInBounds_toArray, List.set_cons_zero, List.set_cons_succ, i64_w, i32_w]
  rfl
 refine pure_ (i := 20) (N := some 25) (v := ?_) (a' := ?_) #[true, false, true, false, false, true, false, true, false, false, true, false, true, false, false, true, false, true, false, false, true, false, false, false, false, false, false, false, false, false, false, false, false, false, false, false, false, false] rfl rfl (any_of HT_.out (by kernel_rfl)) (fun _ _ _ h => h) (Or.inl ⟨by rfl, ?_⟩) ?_ ?_
 rotate_left
 ·intro w'
  go_simp
  with_reducible rfl
 rotate_left
 ·simp only [Act.put, List.setIfInBounds_toArray, List.set_cons_zero, List.set_cons_succ, i64_w, i32_w]
  rfl
 refine pure_ (i := 22) (N := some 27) (v := ?_) (a' := ?_) #[true, false, true, false, false, true, false, true, false, false, true, false, true, false, false, true, false, true, false, false, true, false, true, false, false, false, false, false, false, false, false, false, false, false, false, false, false, false] rfl rfl (any_of HT_.out (by kernel_rfl)) (fun _ _ _ h => h) (Or.inl ⟨by rfl, ?_⟩) ?_ ?_
 rotate_left
 ·intro w'
  go_simp
  with_reducible rfl
 rotate_left
 ·simp only [Act.put, List.setIfInBounds_toArray, List.set_cons_zero, List.set_cons_succ, i64_w, i32_w]
  rfl
 refine pure_ (i := 25) (N := some 30) (v := ?_) (a' := ?_) #[true, false, true, false, false, true, false, true, false, false, true, false, true, false, false, true, false, true, false, false, true, false, true, false, false, true, false, false, false, false, false, false, false, false, false, false, false, false] rfl rfl (any_of HT_.out (by kernel_rfl)) (fun _ _ _ h => h) (Or.inl ⟨by rfl, ?_⟩) ?_ ?_
 rotate_left
 ·intro w'
  go_simp
  with_reducible rfl
 rotate_left
 ·simp only [Act.put, List.setIfInBounds_toArray, List.set_cons_zero, List.set_cons_succ, i64_w, i32_w]
  rfl
 refine pure_ (i := 27) (N := some 32) (v := ?_) (a' := ?_) #[true, false, true, false, false, true, false, true, false, false, true, false, true, false, false, true, false, true, false, false, true, false, true, false, false, true, false, true, false, false, false, false, false, false, false, false, false, false] rfl rfl (any_of HT_.out (by kernel_rfl)) (fun _ _ _ h => h) (Or.inl ⟨by rfl, ?_⟩) ?_ ?_
 rotate_left
 ·intro w'
  go_simp
  with_reducible rfl
 rotate_left
 ·simp only [Act.put, List.setIfInBounds_toArray, List.set_cons_zero, List.set_cons_succ, i64_w, i32_w]
  rfl
 refine pure_ (i := 30) (N := some 35) (v := ?_) (a' := ?_) #[true, false, true, false, false, true, false, true, false, false, true, false, true, false, false, true, false, true, false, false, true, false, true, false, false, true, false, true, false, false, true, false, false, false, false, false, false, false] rfl rfl (any_of HT_.out (by kernel_rfl)) (fun _ _ _ h => h) (Or.inl ⟨by rfl, ?_⟩) ?_ ?_
 rotate_left
 ·intro w'
  go_simp
  with_reducible rfl
 rotate_left
 ·simp only [Act.put, List.setIfInBounds_toArray, List.set_cons_zero, List.set_cons_succ, i64_w, i32_w]
  rfl
 refine pure_ (i := 32) (N := some 37) (v := ?_) (a' := ?_) #[true, false, true, false, false, true, false, true, false, false, true, false, true, false, false, true, false, true, false, false, true, false, true, false, false, true, false, true, false, false, true, false, true, false, false, false, false, false] rfl rfl (any_of HT_.out (by kernel_rfl)) (fun _ _ _ h => h) (Or.inl ⟨by rfl, ?_⟩) ?_ ?_
 rotate_left
 ·intro w'
  go_simp
  with_reducible rfl
 rotate_left
 ·simp only [Act.put, List.setIfInBounds_toArray, List.set_cons_zero, List.set_cons_succ, i64_w, i32_w]
  rfl
 refine take_ (i := 1) (N := some 6) (v := ?_) (a' := ?_) #[true, true, true, false, false, true, false, true, false, false, true, false, true, false, false, true, false, true, false, false, true, false, true, false, false, true, false, true, false, false, true, false, true, false, false, false, false, false] rfl rfl (take_ofW HT_.out HW_.out (by kernel_rfl)) (fun _ _ _ h => h) (Or.inl ⟨by rfl, ?_⟩) hHeld ?_ ?_
 rotate_left
 ·rintro w' ⟨s0, s1, s2, s3, s4, s5, s6, s7, s8, s9, s10, s11, s12, s13⟩
  go_simp
  with_reducible rfl
 rotate_left
 ·simp only [Act.put, List.setIfInBounds_toArray, List.set_cons_zero, List.set_cons_succ, i64_w, i32_w]
  rfl
 refine take_ (i := 3) (N := some 8) (v := ?_) (a' := ?_) #[true, true, true, true, false, true, false, true, false, false, true, false, true, false, false, true, false, true, false, false, true, false, true, false, false, true, false, true, false, false, true, false, true, false, false, false, false, false] rfl rfl (take_ofW HT_.out HW_.out (by kernel_rfl)) (fun _ _ _ h => h) (Or.inl ⟨by rfl, ?_⟩) hHeld ?_ ?_
 rotate_left
 ·rintro w' ⟨s0, s1, s2, s3, s4, s5, s6, s7, s8, s9, s10, s11, s12, s13⟩
  go_simp
  with_reducible rfl
 rotate_left
 ·simp only [Act.put, List.setIfInBounds_toArray, List.set_cons_zero, List.set_cons_succ, i64_w, i32_w]
  rfl
 refine take_ (i := 6) (N := some 11) (v := ?_) (a' := ?_) #[true, true, true, true, false, true, true, true, false, false, true, false, true, false, false, true, false, true, false, false, true, false, true, false, false, true, false, true, false, false, true, false, true, false, false, false, false, false] rfl rfl (take_ofW HT_.out HW_.out (by kernel_rfl)) (fun _ _ _ h => h) (Or.inl ⟨by rfl, ?_⟩) hHeld ?_ ?_
 rotate_left
 ·rintro w' ⟨s0, s1, s2, s3, s4, s5, s6, s7, s8, s9, s10, s11, s12, s13⟩
  go_simp
  with_reducible rfl
 rotate_left
 ·simp only [Act.put, List.setIfInBounds_toArray, List.set_cons_zero, List.set_cons_succ, i64_w, i32_w]
  rfl
 refine take_ (i := 8) (N := some 13) (v := ?_) (a' := ?_) #[true, true, true, true, false, true, true, true, true, false, true, false, true, false, false, true, false, true, false, false, true, false, true, false, false, true, false, true, false, false, true, false, true, false, false, false, false, false] rfl rfl (take_ofW HT_.out HW_.out (by kernel_rfl)) (fun _ _ _ h => h) (Or.inl ⟨by rfl, ?_⟩) hHeld ?_ ?_
 rotate_left
 ·rintro w' ⟨s0, s1, s2, s3, s4, s5, s6, s7, s8, s9, s10, s11, s12, s13⟩
  go_simp
  with_reducible rfl
 rotate_left
 ·simp only [Act.put, List.setIfInBounds_toArray, List.set_cons_zero, List.set_cons_succ, i64_w, i32_w]
  rfl
 refine take_ (i := 11) (N := some 16) (v := ?_) (a' := ?_) #[true, true, true, true, false, true, true, true, true, false, true, true, true, false, false, true, false, true, false, false, true, false, true, false, false, true, false, true, false, false, true, false, true, false, false, false, false, false] rfl rfl (take_ofW HT_.out HW_.out (by kernel_rfl)) (fun _ _ _ h => h) (Or.inl ⟨by rfl, ?_⟩) hHeld ?_ ?_
 rotate_left
 ·rintro w' ⟨s0, s1, s2, s3, s4, s5, s6, s7, s8, s9, s10, s11, s12, s13⟩
  go_simp
  with_reducible rfl
 rotate_left
 ·simp only [Act.put, List.setIfInBounds_toArray, List.set_cons_zero, List.set_cons_succ, i64_w, i32_w]
  rfl
 refine take_ (i := 13) (N := some 18) (v := ?_) (a' := ?_) #[true, true, true, true, false, true, true, true, true, false, true, true, true, true, false, true, false, true, false, false, true, false, true, false, false, true, false, true, false, false, true, false, true, false, false, false, false, false] rfl rfl (take_ofW HT_.out HW_.out (by kernel_rfl)) (fun _ _ _ h => h) (Or.inl ⟨by rfl, ?_⟩) hHeld ?_ ?_
 rotate_left
 ·rintro w' ⟨s0, s1, s2, s3, s4, s5, s6, s7, s8, s9, s10, s11, s12, s13⟩
  go_simp
  with_reducible rfl
 rotate_left
 ·simp only [Act.put, List.setIfInBounds_toArray, List.set_cons_zero, List.set_cons_succ, i64_w, i32_w]
  rfl
 refine take_ (i := 16) (N := some 21) (v := ?_) (a' := ?_) #[true, true, true, true, false, true, true, true, true, false, true, true, true, true, false, true, true, true, false, false, true, false, true, false, false, true, false, true, false, false, true, false, true, false, false, false, false, false] rfl rfl (take_ofW HT_.out HW_.out (by kernel_rfl)) (fun _ _ _ h => h) (Or.inl ⟨by rfl, ?_⟩) hHeld ?_ ?_
 rotate_left
 ·rintro w' ⟨s0, s1, s2, s3, s4, s5, s6, s7, s8, s9, s10, s11, s12, s13⟩
  go_simp
  with_reducible rfl
 rotate_left
 ·simp only [Act.put, List.setIfInBounds_toArray, List.set_cons_zero, List.set_cons_succ, i64_w, i32_w]
  rfl
 refine take_ (i := 18) (N := some 23) (v := ?_) (a' := ?_) #[true, true, true, true, false, true, true, true, true, false, true, true, true, true, false, true, true, true, true, false, true, false, true, false, false, true, false, true, false, false, true, false, true, false, false, false, false, false] rfl rfl (take_ofW HT_.out HW_.out (by kernel_rfl)) (fun _ _ _ h => h) (Or.inl ⟨by rfl, ?_⟩) hHeld ?_ ?_
 rotate_left
 ·rintro w' ⟨s0, s1, s2, s3, s4, s5, s6, s7, s8, s9, s10, s11, s12, s13⟩
  go_simp
  with_reducible rfl
 rotate_left
 ·simp only [Act.put, List.setIfInBounds_toArray, List.set_cons_zero, List.set_cons_succ, i64_w, i32_w]
  rfl
 refine take_ (i := 21) (N := some 26) (v := ?_) (a' := ?_) #[true, true, true, true, false, true, true, true, true, false, true, true, true, true, false, true, true, true, true, false, true, true, true, false, false, true, false, true, false, false, true, false, true, false, false, false, false, false] rfl rfl (take_ofW HT_.out HW_.out (by kernel_rfl)) (fun _ _ _ h => h) (Or.inl ⟨by rfl, ?_⟩) hHeld ?_ ?_
 rotate_left
 ·rintro w' ⟨s0, s1, s2, s3, s4, s5, s6, s7, s8, s9, s10, s11, s12, s13⟩
  go_simp
  with_reducible rfl
 rotate_left
 ·simp only [Act.put, List.setIfInBounds_toArray, List.set_cons_zero, List.set_cons_succ, i64_w, i32_w]
  rfl
 refine take_ (i := 23) (N := some 28) (v := ?_) (a' := ?_) #[true, true, true, true, false, true, true, true, true, false, true, true, true, true, false, true, true, true, true, false, true, true, true, true, false, true, false, true, false, false, true, false, true, false, false, false, false, false] rfl rfl (take_ofW HT_.out HW_.out (by kernel_rfl)) (fun _ _ _ h => h) (Or.inl ⟨by rfl, ?_⟩) hHeld ?_ ?_
 rotate_left
 ·rintro w' ⟨s0, s1, s2, s3, s4, s5, s6, s7, s8, s9, s10, s11, s12, s13⟩
  go_simp
  with_reducible rfl
 rotate_left
 ·simp only [Act.put, List.setIfInBounds_toArray, List.set_cons_zero, List.set_cons_succ, i64_w, i32_w]
  rfl
 refine take_ (i := 26) (N := some 31) (v := ?_) (a' := ?_) #[true, true, true, true, false, true, true, true, true, false, true, true, true, true, false, true, true, true, true, false, true, true, true, true, false, true, true, true, false, false, true, false, true, false, false, false, false, false] rfl rfl (take_ofW HT_.out HW_.out (by kernel_rfl)) (fun _ _ _ h => h) (Or.inl ⟨by rfl, ?_⟩) hHeld ?_ ?_
 rotate_left
 ·rintro w' ⟨s0, s1, s2, s3, s4, s5, s6, s7, s8, s9, s10, s11, s12, s13⟩
  go_simp
  with_reducible rfl
 rotate_left
 ·simp only [Act.put, List.setIfInBounds_toArray, List.set_cons_zero, List.set_cons_succ, i64_w, i32_w]
  rfl
 refine take_ (i := 28) (N := some 33) (v := ?_) (a' := ?_) #[true, true, true, true, false, true, true, true, true, false, true, true, true, true, false, true, true, true, true, false, true, true, true, true, false, true, true, true, true, false, true, false, true, false, false, false, false, false] rfl rfl (take_ofW HT_.out HW_.out (by kernel_rfl)) (fun _ _ _ h => h) (Or.inl ⟨by rfl, ?_⟩) hHeld ?_ ?_
 rotate_left
 ·rintro w' ⟨s0, s1, s2, s3, s4, s5, s6, s7, s8, s9, s10, s11, s12, s13⟩
  go_simp
  with_reducible rfl
 rotate_left
 ·simp only [Act.put, List.setIfInBounds_toArray, List.set_cons_zero, List.set_cons_succ, i64_w, i32_w]
  rfl
 refine take_ (i := 31) (N := some 36) (v := ?_) (a' := ?_) #[true, true, true, true, false, true, true, true, true, false, true, true, true, true, false, true, true, true, true, false, true, true, true, true, false, true, true, true, true, false, true, true, true, false, false, false, false, false] rfl rfl (take_ofW HT_.out HW_.out (by kernel_rfl)) (fun _ _ _ h => h) (Or.inl ⟨by rfl, ?_⟩) hHeld ?_ ?_
 rotate_left
 ·rintro w' ⟨s0, s1, s2, s3, s4, s5, s6, s7, s8, s9, s10, s11, s12, s13⟩
  go_simp
  with_reducible rfl
 rotate_left
 ·simp only [Act.put, List.setIfInBounds_toArray, List.set_cons_zero, List.set_cons_succ, i64_w, i32_w]
  rfl
 refine take_ (i := 33) (N := some 38) (v := ?_) (a' := ?_) #[true, true, true, true, false, true, true, true, true, false, true, true, true, true, false, true, true, true, true, false, true, true, true, true, false, true, true, true, true, false, true, true, true, true, false, false, false, false] rfl rfl (take_ofW HT_.out HW_.out (by kernel_rfl)) (fun _ _ _ h => h) (Or.inl ⟨by rfl, ?_⟩) hHeld ?_ ?_
 rotate_left
 ·rintro w' ⟨s0, s1, s2, s3, s4, s5, s6, s7, s8, s9, s10, s11, s12, s13⟩
  go_simp
  with_reducible rfl
 rotate_left
 ·simp only [Act.put, List.setIfInBounds_toArray, List.set_cons_zero, List.set_cons_succ, i64_w, i32_w]
  rfl
 refine one_ (i := 4) (N := some 9) #[true, true, true, true, true, true, true, true, true, false, true, true, true, true, false, true, true, true, true, false, true, true, true, true, false, true, true, true, true, false, true, true, true, true, false, false, false, false] rfl rfl (one_of HT_.out (by kernel_rfl)) (by decide) (fun K hK => ?_)
 refine goes_ Try.func31 (by kernel_rfl) rfl #[.int .i64 am, .int .i64 a1_0] (by rfl) rfl rfl (by (try simp only [List.map_toArray, List.map_cons, List.map_nil]); first | done | rfl) ?_
 with_reducible refine (cmp_Compare_int.calls am a1_0 t206 _ A3.out).mono ?_
 rintro e w' ⟨rfl, ⟨nd, rfl⟩⟩
 refine ⟨_, rfl, ?_⟩
 refine hK.out _ _ (k0d5d.b7 aa.out (k0d5d.b7e ab.out)) (fun hHeld => ?_)
 clear hK K
 refine norm_ (a' := ?_) ?_ ?_
 rotate_left
 ·show Act.put _ (some 9) _ = _
  simp only [Act.put, List.setIfInBounds_toArray, List.set_cons_zero, List.set_cons_succ, i64_w, i32_w]
  rfl
 refine one_ (i := 9) (N := some 14) #[true, true, true, true, true, true, true, true, true, true, true, true, true, true, false, true, true, true, true, false, true, true, true, true, false, true, true, true, true, false, true, true, true, true, false, false, false, false] rfl rfl (one_of HT_.out (by kernel_rfl)) (by decide) (fun K hK => ?_)
 refine goes_ Try.func31 (by kernel_rfl) rfl #[.int .i64 an, .int .i64 a1_1] (by rfl) rfl rfl (by (try simp only [List.map_toArray, List.map_cons, List.map_nil]); first | done | rfl) ?_
 with_reducible refine (cmp_Compare_int.calls an a1_1 t207 _ A4.out).mono ?_
 rintro e w' ⟨rfl, ⟨nd, rfl⟩⟩
 refine ⟨_, rfl, ?_⟩
 refine hK.out _ _ (k0d5d.b7 aa.out (k0d5d.b7e ab.out)) (fun hHeld => ?_)
 clear hK K
 refine norm_ (a' := ?_) ?_ ?_
 rotate_left
 ·show Act.put _ (some 14) _ = _
  simp only [Act.put, List.setIfInBounds_toArray, List.set_cons_zero, List.set_cons_succ, i64_w, i32_w]
  rfl
 refine one_ (i := 14) (N := some 19) #[true, true, true, true, true, true, true, true, true, true, true, true, true, true, true, true, true, true, true, false, true, true, true, true, false, true, true, true, true, false, true, true, true, true, false, false, false, false] rfl rfl (one_of HT_.out (by kernel_rfl)) (by decide) (fun K hK => ?_)
 refine goes_ Try.func31 (by kernel_rfl) rfl #[.int .i64 ao, .int .i64 a1_2] (by rfl) rfl rfl (by (try simp only [List.map_toArray, List.map_cons, List.map_nil]); first | done | rfl) ?_
 with_reducible refine (cmp_Compare_int.calls ao a1_2 t208 _ A5.out).mono ?_
 rintro e w' ⟨rfl, ⟨nd, rfl⟩⟩
 refine ⟨_, rfl, ?_⟩
 refine hK.out _ _ (k0d5d.b7 aa.out (k0d5d.b7e ab.out)) (fun hHeld => ?_)
 clear hK K
 refine norm_ (a' := ?_) ?_ ?_
 rotate_left
 ·show Act.put _ (some 19) _ = _
  simp only [Act.put, List.setIfInBounds_toArray, List.set_cons_zero, List.set_cons_succ, i64_w, i32_w]
  rfl
 refine one_ (i := 19) (N := some 24) #[true, true, true, true, true, true, true, true, true, true, true, true, true, true, true, true, true, true, true, true, true, true, true, true, false, true, true, true, true, false, true, true, true, true, false, false, false, false] rfl rfl (one_of HT_.out (by kernel_rfl)) (by decide) (fun K hK => ?_)
 refine goes_ Try.func32 (by kernel_rfl) rfl #[.slice A0_3 ag.length c0_3, .slice A1_3 aj.length c1_3] (by rfl) rfl rfl (by (try simp only [List.map_toArray, List.map_cons, List.map_nil]); first | done | rfl) ?_
 with_reducible refine (aspath_Compare.calls k _ _ ag _ _ aj t209 _ ?side1 ?side2 ?side3 ?side4 A6.out).mono ?_
 (case side1 | side3 => repeat (first | exact (Kd.C_below HR0_3.out (by repeat (first | (with_reducible first | exact HB.out | apply below_alloc | apply pw_below_drewN | apply below_drew1 | refine below_set ?_ ac.out | refine below_set ?_ ae.out) | exact HB.out))) | exact (Kd.C_below HR1_3.out (by repeat (first | (with_reducible first | exact HB.out | apply below_alloc | apply pw_below_drewN | apply below_drew1 | refine below_set ?_ ac.out | refine below_set ?_ ae.out) | exact HB.out))) | (with_reducible refine Kd.C_alloc ?_ _) | (with_reducible refine Kd.C_drewN ?_ _) | (with_reducible refine Kd.C_drew ?_)))
 (case side2 | side4 => first | exact HC0_3.out | exact HC1_3.out)
 rintro e w14 ⟨rfl, hb⟩
 refine ⟨_, rfl, ?_⟩
 replace aa := Aside0.mk (blk_below (g := ad) (by (with_reducible repeat (first | refine blk_drewN ?_ _ | refine blk_drew ?_ | refine blk_alloc ?_ _)); exact aa.out) hb)
 replace ab := Aside0.mk (blk_below (g := af) (by (with_reducible repeat (first | refine blk_drewN ?_ _ | refine blk_drew ?_ | refine blk_alloc ?_ _)); exact ab.out) hb)
 replace HB := Aside0.mk (below_step (by repeat (first | (with_reducible first | exact HB.out | apply below_alloc | apply pw_below_drewN | apply below_drew1 | refine below_set ?_ ac.out | refine below_set ?_ ae.out) | exact HB.out)) hb)
 (try clear hb)
 (try clear hb2)
 (try clear hk)
 (try clear hi)
 refine hK.out _ _ (k0d5d.b7 aa.out (k0d5d.b7e ab.out)) (fun hHeld => ?_)
 clear hK K
 refine norm_ (a' := ?_) ?_ ?_
 rotate_left
 ·show Act.put _ (some 24) _ = _
  simp only [Act.put, List.setIfInBounds_toArray, List.set_cons_zero, List.set_cons_succ, i64_w, i32_w]
  rfl
 refine one_ (i := 24) (N := some 29) #[true, true, true, true, true, true, true, true, true, true, true, true, true, true, true, true, true, true, true, true, true, true, true, true, true, true, true, true, true, false, true, true, true, true, false, false, false, false] rfl rfl (one_of HT_.out (by kernel_rfl)) (by decide) (fun K hK => ?_)
 refine goes_ Try.func33 (by kernel_rfl) rfl #[.slice A0_4 ah.length c0_4, .slice A1_4 ak.length c1_4] (by rfl) rfl rfl (by (try simp only [List.map_toArray, List.map_cons, List.map_nil]); first | done | rfl) ?_
 with_reducible refine (comm_Compare.calls _ _ ah _ _ ak t210 _ ?side1 ?side2 ?side3 ?side4 A7.out).mono ?_
 (case side1 | side3 => repeat (first | exact (Kd.C_below HR0_4.out HB.out) | exact (Kd.C_below HR1_4.out HB.out) | (with_reducible refine Kd.C_alloc ?_ _) | (with_reducible refine Kd.C_drewN ?_ _) | (with_reducible refine Kd.C_drew ?_)))
 (case side2 | side4 => first | exact HC0_4.out | exact HC1_4.out)
 rintro e w15 ⟨rfl, hb⟩
 refine ⟨_, rfl, ?_⟩
 replace aa := Aside0.mk (blk_below (g := ad) (by (with_reducible repeat (first | refine blk_drewN ?_ _ | refine blk_drew ?_ | refine blk_alloc ?_ _)); exact aa.out) hb)
 replace ab := Aside0.mk (blk_below (g := af) (by (with_reducible repeat (first | refine blk_drewN ?_ _ | refine blk_drew ?_ | refine blk_alloc ?_ _)); exact ab.out) hb)
 replace HB := Aside0.mk (below_step (by repeat (first | (with_reducible first | exact HB.out | apply below_alloc | apply pw_below_drewN | apply below_drew1 | refine below_set ?_ ac.out | refine below_set ?_ ae.out) | exact HB.out)) hb)
 (try clear hb)
 (try clear hb2)
 (try clear hk)
 (try clear hi)
 refine hK.out _ _ (k0d5d.b7 aa.out (k0d5d.b7e ab.out)) (fun hHeld => ?_)
 clear hK K
 refine norm_ (a' := ?_) ?_ ?_
 rotate_left
 ·show Act.put _ (some 29) _ = _
  simp only [Act.put, List.setIfInBounds_toArray, List.set_cons_zero, List.set_cons_succ, i64_w, i32_w]
  rfl
 refine one_ (i := 29) (N := some 34) #[true, true, true, true, true, true, true, true, true, true, true, true, true, true, true, true, true, true, true, true, true, true, true, true, true, true, true, true, true, true, true, true, true, true, false, false, false, false] rfl rfl (one_of HT_.out (by kernel_rfl)) (by decide) (fun K hK => ?_)
 refine goes_ Try.func31 (by kernel_rfl) rfl #[.int .i64 ap, .int .i64 a1_5] (by rfl) rfl rfl (by (try simp only [List.map_toArray, List.map_cons, List.map_nil]); first | done | rfl) ?_
 with_reducible refine (cmp_Compare_int.calls ap a1_5 t211 _ A8.out).mono ?_
 rintro e w' ⟨rfl, ⟨nd, rfl⟩⟩
 refine ⟨_, rfl, ?_⟩
 refine hK.out _ _ (k0d5d.b7 aa.out (k0d5d.b7e ab.out)) (fun hHeld => ?_)
 clear hK K
 refine norm_ (a' := ?_) ?_ ?_
 rotate_left
 ·show Act.put _ (some 34) _ = _
  simp only [Act.put, List.setIfInBounds_toArray, List.set_cons_zero, List.set_cons_succ, i64_w, i32_w]
  rfl
 refine one_ (i := 34) (N := some 39) #[true, true, true, true, true, true, true, true, true, true, true, true, true, true, true, true, true, true, true, true, true, true, true, true, true, true, true, true, true, true, true, true, true, true, true, false, false, false] rfl rfl (one_of HT_.out (by kernel_rfl)) (by decide) (fun K hK => ?_)
 refine goes_ Try.func32 (by kernel_rfl) rfl #[.slice A0_6 ai.length c0_6, .slice A1_6 al.length c1_6] (by rfl) rfl rfl (by (try simp only [List.map_toArray, List.map_cons, List.map_nil]); first | done | rfl) ?_
 with_reducible refine (aspath_Compare.calls k _ _ ai _ _ al t212 _ ?side1 ?side2 ?side3 ?side4 A9.out).mono ?_
 (case side1 | side3 => repeat (first | exact (Kd.C_below HR0_6.out (by repeat (first | (with_reducible first | exact HB.out | apply below_alloc | apply pw_below_drewN | apply below_drew1 | refine below_set ?_ ac.out | refine below_set ?_ ae.out) | exact HB.out))) | exact (Kd.C_below HR1_6.out (by repeat (first | (with_reducible first | exact HB.out | apply below_alloc | apply pw_below_drewN | apply below_drew1 | refine below_set ?_ ac.out | refine below_set ?_ ae.out) | exact HB.out))) | (with_reducible refine Kd.C_alloc ?_ _) | (with_reducible refine Kd.C_drewN ?_ _) | (with_reducible refine Kd.C_drew ?_)))
 (case side2 | side4 => first | exact HC0_6.out | exact HC1_6.out)
 rintro e w16 ⟨rfl, hb⟩
 refine ⟨_, rfl, ?_⟩
 replace aa := Aside0.mk (blk_below (g := ad) (by (with_reducible repeat (first | refine blk_drewN ?_ _ | refine blk_drew ?_ | refine blk_alloc ?_ _)); exact aa.out) hb)
 replace ab := Aside0.mk (blk_below (g := af) (by (with_reducible repeat (first | refine blk_drewN ?_ _ | refine blk_drew ?_ | refine blk_alloc ?_ _)); exact ab.out) hb)
 replace HB := Aside0.mk (below_step (by repeat (first | (with_reducible first | exact HB.out | apply below_alloc | apply pw_below_drewN | apply below_drew1 | refine below_set ?_ ac.out | refine below_set ?_ ae.out) | exact HB.out)) hb)
 (try clear hb)
 (try clear hb2)
 (try clear hk)
 (try clear hi)
 refine hK.out _ _ (k0d5d.b7 aa.out (k0d5d.b7e ab.out)) (fun hHeld => ?_)
 clear hK K
 refine norm_ (a' := ?_) ?_ ?_
 rotate_left
 ·show Act.put _ (some 39) _ = _
  simp only [Act.put, List.setIfInBounds_toArray, List.set_cons_zero, List.set_cons_succ, i64_w, i32_w]
  rfl
 refine one_ (i := 35) (N := some 40) #[true, true, true, true, true, true, true, true, true, true, true, true, true, true, true, true, true, true, true, true, true, true, true, true, true, true, true, true, true, true, true, true, true, true, true, true, false, false] rfl rfl (one_of HT_.out (by kernel_rfl)) (by decide) (fun K hK => ?_)
 refine Kd.R_lit_step (Kd.int .i64) _ 3 ?hg (N := 40) ?hd (xs := ([t206, t207, t208, t209, t210, t211, t212] : List Int)) (inner := [.int .i64 t206, .int .i64 t207, .int .i64 t208, .int .i64 t209, .int .i64 t210, .int .i64 t211, .int .i64 t212]) (ok := fun _ => True) (okp := fun _ => True) ?hr ?hp (fun _ hk => hk) trivial (Below.refl _ _) (Nat.le_refl _) (by simp) ?_; (case hd => rfl); (case hg => rfl); (case hr => first | (go_simp; done) | (go_simp; rfl)); (case hp => exact (Reps.one (show Kd.M (Kd.int .i64) _ _ _ t206 [.int .i64 t206] from rfl) (Reps.one (show Kd.M (Kd.int .i64) _ _ _ t207 [.int .i64 t207] from rfl) (Reps.one (show Kd.M (Kd.int .i64) _ _ _ t208 [.int .i64 t208] from rfl) (Reps.one (show Kd.M (Kd.int .i64) _ _ _ t209 [.int .i64 t209] from rfl) (Reps.one (show Kd.M (Kd.int .i64) _ _ _ t210 [.int .i64 t210] from rfl) (Reps.one (show Kd.M (Kd.int .i64) _ _ _ t211 [.int .i64 t211] from rfl) (Reps.one (show Kd.M (Kd.int .i64) _ _ _ t212 [.int .i64 t212] from rfl) (Reps.none _ _)))))))))
 intro v214 w17 ho18 hb hg_ hnew_
 clear hg_ hnew_
 (first | rw [← Ny213.out] at ho18 | (simp only [Int.reduceToNat] at ho18; rw [← Ny213.out] at ho18))
 have HO215 := Aside0.mk (Kd.R_lower ho18 (below_size (by repeat (first | (with_reducible first | exact HB.out | apply below_alloc | apply pw_below_drewN | apply below_drew1 | refine below_set ?_ ac.out | refine below_set ?_ ae.out) | exact HB.out))))
 replace aa := Aside0.mk (blk_below (g := ad) (by (with_reducible repeat (first | refine blk_drewN ?_ _ | refine blk_drew ?_ | refine blk_alloc ?_ _)); exact aa.out) hb)
 replace ab := Aside0.mk (blk_below (g := af) (by (with_reducible repeat (first | refine blk_drewN ?_ _ | refine blk_drew ?_ | refine blk_alloc ?_ _)); exact ab.out) hb)
 replace HB := Aside0.mk (below_step (by repeat (first | (with_reducible first | exact HB.out | apply below_alloc | apply pw_below_drewN | apply below_drew1 | refine below_set ?_ ac.out | refine below_set ?_ ae.out) | exact HB.out)) hb)
 clear hb ho18
 obtain ⟨Ao19, co19, eo19⟩ := Kd.R_slice HO215.out
 (first | subst eo19 | (injection eo19 with f1_ f2_ f3_; have f4_ := f1_.symm; have f5_ := f3_.symm; clear f1_ f2_ f3_; subst f4_; subst f5_))
 refine hK.out _ _ (k0d5d.b7 aa.out (k0d5d.b7e ab.out)) (fun hHeld => ?_)
 clear hK K
 refine norm_ (a' := ?_) ?_ ?_
 rotate_left
 ·show Act.put _ (some 40) _ = _
  simp only [Act.put, List.setIfInBounds_toArray, List.set_cons_zero, List.set_cons_succ, i64_w, i32_w]
  rfl
 refine one_ (i := 36) (N := some 41) #[true, true, true, true, true, true, true, true, true, true, true, true, true, true, true, true, true, true, true, true, true, true, true, true, true, true, true, true, true, true, true, true, true, true, true, true, true, false] rfl rfl (one_of HT_.out (by kernel_rfl)) (by decide) (fun K hK => ?_)
 refine goes_ Try.func30 (by kernel_rfl) rfl #[.slice Ao19 y213.length co19] (by rfl) rfl rfl (by (try simp only [List.map_toArray, List.map_cons, List.map_nil]); first | done | rfl) ?_
 with_reducible refine (cmp_Or_int.calls k _ _ y213 t216 _ ?side1 ?side2 A10.out).mono ?_
 (case side1 => repeat (first | exact (Kd.R_reads' HO215.out).2.2 | (with_reducible refine Kd.C_alloc ?_ _) | (with_reducible refine Kd.C_drewN ?_ _) | (with_reducible refine Kd.C_drew ?_)))
 (case side2 => exact (Kd.R_reads' HO215.out).2.1)
 rintro e w' ⟨rfl, ⟨nd, rfl⟩⟩
 refine ⟨_, rfl, ?_⟩
 refine hK.out _ _ (k0d5d.b7 aa.out (k0d5d.b7e ab.out)) (fun hHeld => ?_)
 clear hK K
 refine norm_ (a' := ?_) ?_ ?_
 rotate_left
 ·show Act.put _ (some 41) _ = _
  simp only [Act.put, List.setIfInBounds_toArray, List.set_cons_zero, List.set_cons_succ, i64_w, i32_w]
  rfl
 refine pure_ (i := 37) (N := some 4) (v := ?_) (a' := ?_) #[true, true, true, true, true, true, true, true, true, true, true, true, true, true, true, true, true, true, true, true, true, true, true, true, true, true, true, true, true, true, true, true, true, true, true, true, true, true] rfl rfl (any_of HT_.out (by kernel_rfl)) (fun _ _ _ h => h) (Or.inl ⟨by rfl, ?_⟩) ?_ ?_
 rotate_left
 ·intro w'
  go_simp
  with_reducible rfl
 rotate_left
 ·simp only [Act.put, List.setIfInBounds_toArray, List.set_cons_zero, List.set_cons_succ, i64_w, i32_w]
  rfl
 refine done_ (done_of HT_.out (by kernel_rfl)) ?_
 try go_wp2
 go_ret
 exact ⟨by first | rfl | (simp [errW_none, errW_some] <;> rfl) | (simp [*, errW_none, errW_some] <;> rfl), by repeat (first | (with_reducible first | exact HB.out | apply below_alloc | apply pw_below_drewN | apply below_drew1 | refine below_set ?_ ac.out | refine below_set ?_ ae.out) | exact HB.out)⟩

end Go.Proofs.Ytnnlbofmlfafhaa.P

end
