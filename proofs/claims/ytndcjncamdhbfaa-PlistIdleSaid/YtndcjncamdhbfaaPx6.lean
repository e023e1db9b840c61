/- Printed by this session's own program (wip/tools/pr.py) out of the translation: functions of the program as plain Lean functions, and that the program's calls come to what these say. -/
import Derived.Test.YtndcjncamdhbfaaPx0
import Derived.Test.YtndcjncamdhbfaaPx3
import Derived.Test.YtndcjncamdhbfaaPx4
import Derived.Test.YtndcjncamdhbfaaPx5
namespace Go.Proofs.Ytndcjncamdhbfaa.P
open Go.RowKit Go.Proofs.YtndcjncamdhbfaaW.PrintWords Go.Proofs.YtndcjncamdhbfaaW.PrintLast Go.Proofs.YtndcjncamdhbfaaW.PrintMore
attribute [local go_sem] max2_int min2_int max_two min_two max_three min_three max_four min_four   -- for this text's walks alone
set_option linter.unusedVariables false
set_option linter.unusedSimpArgs false

/-! ### whirligigref02_Text: function 10 -/
def whirligigref02_Text.j0 : Nat → ByteArray → Int → Int → Int → Int → Bool → Option (ByteArray)
  | 0, _, _, _, _, _, _ => none
  | k + 1, x3, x143000, x143001, x143002, x143003, x143004 => if x3.size + 1 ≤ 9223372036854775807 then ((whirligigref01_Text.f k x143000 x143001).bind fun t144 => (if (x3 ++ (⟨#[32]⟩ : ByteArray)).size + t144.size ≤ 9223372036854775807 then (if x143002 > x143001 then (if ((x3 ++ (⟨#[32]⟩ : ByteArray)) ++ t144).size + 4 ≤ 9223372036854775807 then ((whirligigref01_Number.f k x143002).bind fun t145 => (if (((x3 ++ (⟨#[32]⟩ : ByteArray)) ++ t144) ++ (⟨#[32, 103, 101, 32]⟩ : ByteArray)).size + t145.size ≤ 9223372036854775807 then (if x143003 > x143002 then (if ((((x3 ++ (⟨#[32]⟩ : ByteArray)) ++ t144) ++ (⟨#[32, 103, 101, 32]⟩ : ByteArray)) ++ t145).size + 4 ≤ 9223372036854775807 then ((whirligigref01_Number.f k x143003).bind fun t146 => (if (((((x3 ++ (⟨#[32]⟩ : ByteArray)) ++ t144) ++ (⟨#[32, 103, 101, 32]⟩ : ByteArray)) ++ t145) ++ (⟨#[32, 108, 101, 32]⟩ : ByteArray)).size + t146.size ≤ 9223372036854775807 then (some ((((((x3 ++ (⟨#[32]⟩ : ByteArray)) ++ t144) ++ (⟨#[32, 103, 101, 32]⟩ : ByteArray)) ++ t145) ++ (⟨#[32, 108, 101, 32]⟩ : ByteArray)) ++ t146)) else (none))) else (none)) else (some ((((x3 ++ (⟨#[32]⟩ : ByteArray)) ++ t144) ++ (⟨#[32, 103, 101, 32]⟩ : ByteArray)) ++ t145))) else (none))) else (none)) else (if x143003 > x143002 then (if ((x3 ++ (⟨#[32]⟩ : ByteArray)) ++ t144).size + 4 ≤ 9223372036854775807 then ((whirligigref01_Number.f k x143003).bind fun t147 => (if (((x3 ++ (⟨#[32]⟩ : ByteArray)) ++ t144) ++ (⟨#[32, 108, 101, 32]⟩ : ByteArray)).size + t147.size ≤ 9223372036854775807 then (some ((((x3 ++ (⟨#[32]⟩ : ByteArray)) ++ t144) ++ (⟨#[32, 108, 101, 32]⟩ : ByteArray)) ++ t147)) else (none))) else (none)) else (some ((x3 ++ (⟨#[32]⟩ : ByteArray)) ++ t144)))) else (none))) else (none)
def whirligigref02_Text.f (k : Nat) (a0_0 : Int) (a0_1 : Int) (a0_2 : Int) (a0_3 : Int) (a0_4 : Bool) : Option (ByteArray) := (whirligigref02_May.f k a0_0 a0_1 a0_2 a0_3 a0_4).bind fun t143 => (if t143 = true then (if a0_4 = true then (whirligigref02_Text.j0 k (⟨#[112, 101, 114, 109, 105, 116]⟩ : ByteArray) a0_0 a0_1 a0_2 a0_3 a0_4) else (whirligigref02_Text.j0 k (⟨#[100, 101, 110, 121]⟩ : ByteArray) a0_0 a0_1 a0_2 a0_3 a0_4)) else (some (⟨#[]⟩ : ByteArray)))
theorem whirligigref02_Text.mono_l : ∀ k, (∀ y0 y1 y2 y3 y4 y5, LeO (whirligigref02_Text.j0 k y0 y1 y2 y3 y4 y5) (whirligigref02_Text.j0 (k + 1) y0 y1 y2 y3 y4 y5))
  | 0 => fun _ _ _ _ _ _ r h => by simp [whirligigref02_Text.j0] at h
  | k + 1 => by
    have ih0 := whirligigref02_Text.mono_l k
    · intro y0 y1 y2 y3 y4 y5
      unfold whirligigref02_Text.j0
      repeat' first
      | (with_reducible exact ih0 _ _ _ _ _ _)
      | (with_reducible exact whirligigref01_Number.mono _ _)
      | (with_reducible exact whirligigref01_Text.mono _ _ _)
      | (with_reducible exact whirligigref02_May.mono _ _ _ _ _ _)
      | (with_reducible exact LeO.refl _)
      | (with_reducible exact LeO.none _)
      | (with_reducible refine LeO.ite ?_ ?_)
      | (with_reducible refine LeO.bind ?_ (fun _ => ?_))
      | exact ih0 _ _ _ _ _ _
      | exact whirligigref01_Number.mono _ _
      | exact whirligigref01_Text.mono _ _ _
      | exact whirligigref02_May.mono _ _ _ _ _ _
      | exact LeO.none _
      | refine LeO.ite ?_ ?_
      | refine LeO.bind ?_ (fun _ => ?_)
theorem whirligigref02_Text.mono : ∀ a0 a1 a2 a3 a4 k, LeO (whirligigref02_Text.f k a0 a1 a2 a3 a4) (whirligigref02_Text.f (k + 1) a0 a1 a2 a3 a4) := by
  intro a0 a1 a2 a3 a4 k
  have ih0 := whirligigref02_Text.mono_l k
  unfold whirligigref02_Text.f
  repeat' first
      | (with_reducible exact ih0 _ _ _ _ _ _)
      | (with_reducible exact whirligigref01_Number.mono _ _)
      | (with_reducible exact whirligigref01_Text.mono _ _ _)
      | (with_reducible exact whirligigref02_May.mono _ _ _ _ _ _)
      | (with_reducible exact LeO.refl _)
      | (with_reducible exact LeO.none _)
      | (with_reducible refine LeO.ite ?_ ?_)
      | (with_reducible refine LeO.bind ?_ (fun _ => ?_))
      | exact ih0 _ _ _ _ _ _
      | exact whirligigref01_Number.mono _ _
      | exact whirligigref01_Text.mono _ _ _
      | exact whirligigref02_May.mono _ _ _ _ _ _
      | exact LeO.none _
      | refine LeO.ite ?_ ?_
      | refine LeO.bind ?_ (fun _ => ?_)
set_option maxHeartbeats 8000000 in
set_option maxRecDepth 100000 in
theorem whirligigref02_Text.calls (k : Nat) (af : Int) (ad : Int) (ac : Int) (ae : Int) (ah : Bool) (r : ByteArray) (w : World) (h : whirligigref02_Text.f k af ad ac ae ah = some r) :
  Calls Try.prog 10 #[.agg #[.int .u32 af, .int .i64 ad, .int .i64 ac, .int .i64 ae, .bool ah]] w fun e w' => e = .returned (.string r) ∧ Below w.heap.size w w' := by
 have hu26 := Try.underlying26
 have hu24 := Try.underlying24
 have HB := Aside0.mk (Below.refl w.heap.size w)
 have H := h
 unfold whirligigref02_Text.f at H
 clear h
 replace H := Option.bind_eq_some_iff.mp H
 obtain ⟨t143, A20, H⟩ := H
 (try dsimp only at H)
 have A2 := Aside0.mk A20
 clear A20
 by_cases c3 : t143 = true
 ·subst c3
  have H1 := H
  rw [if_pos rfl] at H1
  clear H
  have H := H1
  clear H1
  have HC4 := Aside0.mk H
  clear H
  go_enter Try.func10, Try.ntmps10
  go_upto_if 8 with (first | ((with_reducible refine gate_dst (N := 1) rfl ?_); refine box_event ?hg (N := 1) ?hd (cs := #[.int .u32 af, .int .i64 ad, .int .i64 ac, .int .i64 ae, .bool ah]) (t := 26) ?hr ?_; (case hd => rfl); (case hg => rfl); (case hr => first | (go_simp; done) | (go_simp; rfl)); intro ab hg w5 hbox hb; have n0_ := Aside0.mk (below_step (by repeat (first | (with_reducible first | exact HB.out | apply below_alloc | apply pw_below_drewN | apply below_drew1) | exact HB.out)) hb); have n1_ := Aside0.mk (hbox); have n2_ := Aside0.mk ((by rw [hg]; exact (below_size (by repeat (first | (with_reducible first | exact HB.out | apply below_alloc | apply pw_below_drewN | apply below_drew1) | exact HB.out))) : w.heap.size ≤ ab)); have n3_ := Aside0.mk ((by rw [hg]; exact (below_size (by repeat (first | (with_reducible first | exact HB.out | apply below_alloc | apply pw_below_drewN | apply below_drew1) | exact HB.out))) : w.heap.size ≤ ab)); clear HB; have HB := n0_; have aa := n1_; have GW142 := n2_; have ag := n3_; clear n0_ n1_ n2_ n3_; clear hb hbox hg; have hcz6_0 : w5.cell? ⟨ab, 0, none⟩ = some (.int .u32 af) := (blk_cell aa.out 0).trans rfl; have hcz6_1 : w5.cell? ⟨ab, 1, none⟩ = some (.int .i64 ad) := (blk_cell aa.out 1).trans rfl; have hcz6_2 : w5.cell? ⟨ab, 2, none⟩ = some (.int .i64 ac) := (blk_cell aa.out 2).trans rfl; have hcz6_3 : w5.cell? ⟨ab, 3, none⟩ = some (.int .i64 ae) := (blk_cell aa.out 3).trans rfl; have hcz6_4 : w5.cell? ⟨ab, 4, none⟩ = some (.bool ah) := (blk_cell aa.out 4).trans rfl; have hfz6_0 := blk_frozen aa.out 0; have hfz6_1 := blk_frozen aa.out 1; have hfz6_2 := blk_frozen aa.out 2; have hfz6_3 := blk_frozen aa.out 3; have hfz6_4 := blk_frozen aa.out 4) | ((with_reducible refine gate_callee (f := 11) rfl ?_); refine goesL_ (some 5) rfl rfl Try.func11 (by kernel_rfl) rfl #[.agg #[.int .u32 af, .int .i64 ad, .int .i64 ac, .int .i64 ae, .bool ah]] rfl (by (try simp only [List.map_toArray, List.map_cons, List.map_nil]); first | done | rfl) ?_; (with_reducible refine (whirligigref02_May.calls k af ad ac ae ah true _ A2.out).mono ?_); rintro e w7 ⟨rfl, hb⟩; refine ⟨_, rfl, ?_⟩; replace aa := Aside0.mk (blk_below (g := ab) (by (with_reducible repeat (first | refine blk_drewN ?_ _ | refine blk_drew ?_ | refine blk_alloc ?_ _)); exact aa.out) hb); replace HB := Aside0.mk (below_step (by repeat (first | (with_reducible first | exact HB.out | apply below_alloc | apply pw_below_drewN | apply below_drew1 | refine below_set ?_ ag.out) | exact HB.out)) hb); (try clear hb); (try clear ai); (try clear hk); (try clear hi); have hcz8_0 : w7.cell? ⟨ab, 0, none⟩ = some (.int .u32 af) := (blk_cell aa.out 0).trans rfl; have hcz8_1 : w7.cell? ⟨ab, 1, none⟩ = some (.int .i64 ad) := (blk_cell aa.out 1).trans rfl; have hcz8_2 : w7.cell? ⟨ab, 2, none⟩ = some (.int .i64 ac) := (blk_cell aa.out 2).trans rfl; have hcz8_3 : w7.cell? ⟨ab, 3, none⟩ = some (.int .i64 ae) := (blk_cell aa.out 3).trans rfl; have hcz8_4 : w7.cell? ⟨ab, 4, none⟩ = some (.bool ah) := (blk_cell aa.out 4).trans rfl; have hfz8_0 := blk_frozen aa.out 0; have hfz8_1 := blk_frozen aa.out 1; have hfz8_2 := blk_frozen aa.out 2; have hfz8_3 := blk_frozen aa.out 3; have hfz8_4 := blk_frozen aa.out 4))
  (try simp only [Act.put, List.setIfInBounds_toArray, List.set_cons_zero, List.set_cons_succ])
  go_cut [3] (fun v3 wc => ∃ (kq : Nat) (x3_3 : ByteArray), v3 = .string x3_3 ∧ Aside0 (whirligigref02_Text.j0 kq x3_3 af ad ac ae ah = some r) ∧ Aside0 (kq ≤ k) ∧ Aside0 (wc.heap[ab]? = some (.cells #[.int .u32 af, .int .i64 ad, .int .i64 ac, .int .i64 ae, .bool ah] 26 (0, 0))) ∧ Aside0 (Below w.heap.size w wc))
  case first =>
   have H := HC4.out
   clear HC4
   by_cases c9 : ah = true
   ·subst c9
    have H1 : (whirligigref02_Text.j0 k (⟨#[112, 101, 114, 109, 105, 116]⟩ : ByteArray) af ad ac ae true) = some r := by rw [if_pos rfl] at H; exact H
    clear H
    have H := H1
    clear H1
    have H' := Aside0.mk H
    clear H
    go_wp2
    go_meet
    case rel => exact ⟨_, ((⟨#[112, 101, 114, 109, 105, 116]⟩ : ByteArray)), (by first | rfl | (simp; done) | (simp [*]; done)), H', ⟨by first | omega | exact Nat.le_refl _⟩, ⟨by (with_reducible repeat (first | refine blk_drewN ?_ _ | refine blk_drew ?_ | refine blk_alloc ?_ _)); exact aa.out⟩, ⟨by repeat (first | (with_reducible first | exact HB.out | apply below_alloc | apply pw_below_drewN | apply below_drew1 | refine below_set ?_ ag.out) | exact HB.out)⟩⟩
   ·replace c9 := Bool.eq_false_iff.mpr c9
    subst c9
    have H1 : (whirligigref02_Text.j0 k (⟨#[100, 101, 110, 121]⟩ : ByteArray) af ad ac ae false) = some r := by rw [if_neg (show ¬ (false = true) by decide)] at H; exact H
    clear H
    have H := H1
    clear H1
    have H' := Aside0.mk H
    clear H
    go_wp2
    go_meet
    case rel => exact ⟨_, ((⟨#[100, 101, 110, 121]⟩ : ByteArray)), (by first | rfl | (simp; done) | (simp [*]; done)), H', ⟨by first | omega | exact Nat.le_refl _⟩, ⟨by (with_reducible repeat (first | refine blk_drewN ?_ _ | refine blk_drew ?_ | refine blk_alloc ?_ _)); exact aa.out⟩, ⟨by repeat (first | (with_reducible first | exact HB.out | apply below_alloc | apply pw_below_drewN | apply below_drew1 | refine below_set ?_ ag.out) | exact HB.out)⟩⟩
  case rest =>
   clear HC4
   try clear c1
   try clear p2
   try clear c3
   try clear c9
   try clear hcz6_0
   try clear hcz6_1
   try clear hcz6_2
   try clear hcz6_3
   try clear hcz6_4
   try clear hcz8_0
   try clear hcz8_1
   try clear hcz8_2
   try clear hcz8_3
   try clear hcz8_4
   try clear hfz6_0
   try clear hfz6_1
   try clear hfz6_2
   try clear hfz6_3
   try clear hfz6_4
   try clear hfz8_0
   try clear hfz8_1
   try clear hfz8_2
   try clear hfz8_3
   try clear hfz8_4
   obtain ⟨kq, x3_3, rfl, HA, HJ3, aa, HB⟩ := hcut
   cases kq with
   | zero => exact absurd HA.out (by simp [whirligigref02_Text.j0])
   | succ aj =>
    have H := HA.out
    clear HA
    simp only [whirligigref02_Text.j0] at H
    by_cases c10 : x3_3.size + 1 ≤ 9223372036854775807
    ·rw [if_pos c10] at H
     have c10b0 := eq_true c10
     have c10b1 : decide (x3_3.size + 1 ≤ 9223372036854775807) = true := decide_eq_true c10
     try have c10b2 : (9223372036854775807 < x3_3.size + 1) = False := eq_false (Nat.not_lt.2 c10)
     replace H := Option.bind_eq_some_iff.mp H
     obtain ⟨t144, A110, H⟩ := H
     (try dsimp only at H)
     have A11 := Aside0.mk A110
     clear A110
     by_cases c12 : (x3_3 ++ (⟨#[32]⟩ : ByteArray)).size + t144.size ≤ 9223372036854775807
     ·rw [if_pos c12] at H
      have c12b0 := eq_true c12
      have c12b1 : decide ((x3_3 ++ (⟨#[32]⟩ : ByteArray)).size + t144.size ≤ 9223372036854775807) = true := decide_eq_true c12
      try have c12b2 : (9223372036854775807 < (x3_3 ++ (⟨#[32]⟩ : ByteArray)).size + t144.size) = False := eq_false (Nat.not_lt.2 c12)
      try have c12b3 : (9223372036854775807 < x3_3.size + 1 + t144.size) = False := eq_false (Nat.not_lt.2 (by have h_ := c12; (try simp only [ByteArray.size_append] at h_); first | exact h_ | (simp only [ByteArray.size_extract] at h_; simp only [decide_eq_true_eq] at *; omega)))
      by_cases c13 : ac > ad
      ·rw [if_pos c13] at H
       have c13b0 : decide (ad < ac) = true := decide_eq_true c13
       clear c13
       by_cases c14 : ((x3_3 ++ (⟨#[32]⟩ : ByteArray)) ++ t144).size + 4 ≤ 9223372036854775807
       ·rw [if_pos c14] at H
        have c14b0 := eq_true c14
        have c14b1 : decide (((x3_3 ++ (⟨#[32]⟩ : ByteArray)) ++ t144).size + 4 ≤ 9223372036854775807) = true := decide_eq_true c14
        try have c14b2 : (9223372036854775807 < ((x3_3 ++ (⟨#[32]⟩ : ByteArray)) ++ t144).size + 4) = False := eq_false (Nat.not_lt.2 c14)
        try have c14b3 : (9223372036854775807 < x3_3.size + 1 + t144.size + 4) = False := eq_false (Nat.not_lt.2 (by have h_ := c14; (try simp only [ByteArray.size_append] at h_); first | exact h_ | (simp only [ByteArray.size_extract] at h_; simp only [decide_eq_true_eq] at *; omega)))
        replace H := Option.bind_eq_some_iff.mp H
        obtain ⟨t145, A150, H⟩ := H
        (try dsimp only at H)
        have A15 := Aside0.mk A150
        clear A150
        by_cases c16 : (((x3_3 ++ (⟨#[32]⟩ : ByteArray)) ++ t144) ++ (⟨#[32, 103, 101, 32]⟩ : ByteArray)).size + t145.size ≤ 9223372036854775807
        ·rw [if_pos c16] at H
         have c16b0 := eq_true c16
         have c16b1 : decide ((((x3_3 ++ (⟨#[32]⟩ : ByteArray)) ++ t144) ++ (⟨#[32, 103, 101, 32]⟩ : ByteArray)).size + t145.size ≤ 9223372036854775807) = true := decide_eq_true c16
         try have c16b2 : (9223372036854775807 < (((x3_3 ++ (⟨#[32]⟩ : ByteArray)) ++ t144) ++ (⟨#[32, 103, 101, 32]⟩ : ByteArray)).size + t145.size) = False := eq_false (Nat.not_lt.2 c16)
         try have c16b3 : (9223372036854775807 < x3_3.size + 1 + t144.size + 4 + t145.size) = False := eq_false (Nat.not_lt.2 (by have h_ := c16; (try simp only [ByteArray.size_append] at h_); first | exact h_ | (simp only [ByteArray.size_extract] at h_; simp only [decide_eq_true_eq] at *; omega)))
         by_cases c17 : ae > ac
         ·rw [if_pos c17] at H
          have c17b0 : decide (ac < ae) = true := decide_eq_true c17
          clear c17
          by_cases c18 : ((((x3_3 ++ (⟨#[32]⟩ : ByteArray)) ++ t144) ++ (⟨#[32, 103, 101, 32]⟩ : ByteArray)) ++ t145).size + 4 ≤ 9223372036854775807
          ·rw [if_pos c18] at H
           have c18b0 := eq_true c18
           have c18b1 : decide (((((x3_3 ++ (⟨#[32]⟩ : ByteArray)) ++ t144) ++ (⟨#[32, 103, 101, 32]⟩ : ByteArray)) ++ t145).size + 4 ≤ 9223372036854775807) = true := decide_eq_true c18
           try have c18b2 : (9223372036854775807 < ((((x3_3 ++ (⟨#[32]⟩ : ByteArray)) ++ t144) ++ (⟨#[32, 103, 101, 32]⟩ : ByteArray)) ++ t145).size + 4) = False := eq_false (Nat.not_lt.2 c18)
           try have c18b3 : (9223372036854775807 < x3_3.size + 1 + t144.size + 4 + t145.size + 4) = False := eq_false (Nat.not_lt.2 (by have h_ := c18; (try simp only [ByteArray.size_append] at h_); first | exact h_ | (simp only [ByteArray.size_extract] at h_; simp only [decide_eq_true_eq] at *; omega)))
           replace H := Option.bind_eq_some_iff.mp H
           obtain ⟨t146, A190, H⟩ := H
           (try dsimp only at H)
           have A19 := Aside0.mk A190
           clear A190
           by_cases c20 : (((((x3_3 ++ (⟨#[32]⟩ : ByteArray)) ++ t144) ++ (⟨#[32, 103, 101, 32]⟩ : ByteArray)) ++ t145) ++ (⟨#[32, 108, 101, 32]⟩ : ByteArray)).size + t146.size ≤ 9223372036854775807
           ·rw [if_pos c20] at H
            have c20b0 := eq_true c20
            have c20b1 : decide ((((((x3_3 ++ (⟨#[32]⟩ : ByteArray)) ++ t144) ++ (⟨#[32, 103, 101, 32]⟩ : ByteArray)) ++ t145) ++ (⟨#[32, 108, 101, 32]⟩ : ByteArray)).size + t146.size ≤ 9223372036854775807) = true := decide_eq_true c20
            try have c20b2 : (9223372036854775807 < (((((x3_3 ++ (⟨#[32]⟩ : ByteArray)) ++ t144) ++ (⟨#[32, 103, 101, 32]⟩ : ByteArray)) ++ t145) ++ (⟨#[32, 108, 101, 32]⟩ : ByteArray)).size + t146.size) = False := eq_false (Nat.not_lt.2 c20)
            try have c20b3 : (9223372036854775807 < x3_3.size + 1 + t144.size + 4 + t145.size + 4 + t146.size) = False := eq_false (Nat.not_lt.2 (by have h_ := c20; (try simp only [ByteArray.size_append] at h_); first | exact h_ | (simp only [ByteArray.size_extract] at h_; simp only [decide_eq_true_eq] at *; omega)))
            obtain rfl := Option.some.inj H
            have hcz21_0 : wc.cell? ⟨ab, 0, none⟩ = some (.int .u32 af) := (blk_cell aa.out 0).trans rfl
            have hcz21_1 : wc.cell? ⟨ab, 1, none⟩ = some (.int .i64 ad) := (blk_cell aa.out 1).trans rfl
            have hcz21_2 : wc.cell? ⟨ab, 2, none⟩ = some (.int .i64 ac) := (blk_cell aa.out 2).trans rfl
            have hcz21_3 : wc.cell? ⟨ab, 3, none⟩ = some (.int .i64 ae) := (blk_cell aa.out 3).trans rfl
            have hcz21_4 : wc.cell? ⟨ab, 4, none⟩ = some (.bool ah) := (blk_cell aa.out 4).trans rfl
            have hfz21_0 := blk_frozen aa.out 0
            have hfz21_1 := blk_frozen aa.out 1
            have hfz21_2 := blk_frozen aa.out 2
            have hfz21_3 := blk_frozen aa.out 3
            have hfz21_4 := blk_frozen aa.out 4
            go_wp2_with (first | ((with_reducible refine gate_callee (f := 30) rfl ?_); refine goesL_ (some 13) rfl rfl Try.func30 (by kernel_rfl) rfl #[.agg #[.int .u32 af, .int .i64 ad]] rfl (by (try simp only [List.map_toArray, List.map_cons, List.map_nil]); first | done | rfl) ?_; (with_reducible refine (whirligigref01_Text.calls aj af ad t144 _ A11.out).mono ?_); rintro e w22 ⟨rfl, hb⟩; refine ⟨_, rfl, ?_⟩; replace aa := Aside0.mk (blk_below (g := ab) (by (with_reducible repeat (first | refine blk_drewN ?_ _ | refine blk_drew ?_ | refine blk_alloc ?_ _)); exact aa.out) hb); replace HB := Aside0.mk (below_step (by repeat (first | (with_reducible first | exact HB.out | apply below_alloc | apply pw_below_drewN | apply below_drew1 | refine below_set ?_ ag.out) | exact HB.out)) hb); (try clear hb); (try clear ai); (try clear hk); (try clear hi); have hcz23_0 : w22.cell? ⟨ab, 0, none⟩ = some (.int .u32 af) := (blk_cell aa.out 0).trans rfl; have hcz23_1 : w22.cell? ⟨ab, 1, none⟩ = some (.int .i64 ad) := (blk_cell aa.out 1).trans rfl; have hcz23_2 : w22.cell? ⟨ab, 2, none⟩ = some (.int .i64 ac) := (blk_cell aa.out 2).trans rfl; have hcz23_3 : w22.cell? ⟨ab, 3, none⟩ = some (.int .i64 ae) := (blk_cell aa.out 3).trans rfl; have hcz23_4 : w22.cell? ⟨ab, 4, none⟩ = some (.bool ah) := (blk_cell aa.out 4).trans rfl; have hfz23_0 := blk_frozen aa.out 0; have hfz23_1 := blk_frozen aa.out 1; have hfz23_2 := blk_frozen aa.out 2; have hfz23_3 := blk_frozen aa.out 3; have hfz23_4 := blk_frozen aa.out 4) | ((with_reducible refine gate_callee (f := 31) rfl ?_); refine goesL_ (some 25) rfl rfl Try.func31 (by kernel_rfl) rfl #[.int .i64 ac] rfl (by (try simp only [List.map_toArray, List.map_cons, List.map_nil]); first | done | rfl) ?_; (with_reducible refine (whirligigref01_Number.calls aj ac t145 _ A15.out).mono ?_); rintro e w24 ⟨rfl, hb⟩; refine ⟨_, rfl, ?_⟩; replace aa := Aside0.mk (blk_below (g := ab) (by (with_reducible repeat (first | refine blk_drewN ?_ _ | refine blk_drew ?_ | refine blk_alloc ?_ _)); exact aa.out) hb); replace HB := Aside0.mk (below_step (by repeat (first | (with_reducible first | exact HB.out | apply below_alloc | apply pw_below_drewN | apply below_drew1 | refine below_set ?_ ag.out) | exact HB.out)) hb); (try clear hb); (try clear ai); (try clear hk); (try clear hi); have hcz25_0 : w24.cell? ⟨ab, 0, none⟩ = some (.int .u32 af) := (blk_cell aa.out 0).trans rfl; have hcz25_1 : w24.cell? ⟨ab, 1, none⟩ = some (.int .i64 ad) := (blk_cell aa.out 1).trans rfl; have hcz25_2 : w24.cell? ⟨ab, 2, none⟩ = some (.int .i64 ac) := (blk_cell aa.out 2).trans rfl; have hcz25_3 : w24.cell? ⟨ab, 3, none⟩ = some (.int .i64 ae) := (blk_cell aa.out 3).trans rfl; have hcz25_4 : w24.cell? ⟨ab, 4, none⟩ = some (.bool ah) := (blk_cell aa.out 4).trans rfl; have hfz25_0 := blk_frozen aa.out 0; have hfz25_1 := blk_frozen aa.out 1; have hfz25_2 := blk_frozen aa.out 2; have hfz25_3 := blk_frozen aa.out 3; have hfz25_4 := blk_frozen aa.out 4) | ((with_reducible refine gate_callee (f := 31) rfl ?_); refine goesL_ (some 36) rfl rfl Try.func31 (by kernel_rfl) rfl #[.int .i64 ae] rfl (by (try simp only [List.map_toArray, List.map_cons, List.map_nil]); first | done | rfl) ?_; (with_reducible refine (whirligigref01_Number.calls aj ae t146 _ A19.out).mono ?_); rintro e w26 ⟨rfl, hb⟩; refine ⟨_, rfl, ?_⟩; replace aa := Aside0.mk (blk_below (g := ab) (by (with_reducible repeat (first | refine blk_drewN ?_ _ | refine blk_drew ?_ | refine blk_alloc ?_ _)); exact aa.out) hb); replace HB := Aside0.mk (below_step (by repeat (first | (with_reducible first | exact HB.out | apply below_alloc | apply pw_below_drewN | apply below_drew1 | refine below_set ?_ ag.out) | exact HB.out)) hb); (try clear hb); (try clear ai); (try clear hk); (try clear hi)))
            go_ret
            exact ⟨by first | rfl | (simp [errW_none, errW_some] <;> rfl) | (simp [*, errW_none, errW_some] <;> rfl), by repeat (first | (with_reducible first | exact HB.out | apply below_alloc | apply pw_below_drewN | apply below_drew1 | refine below_set ?_ ag.out) | exact HB.out)⟩
           ·rw [if_neg c20] at H
            exact absurd H (by simp)
          ·rw [if_neg c18] at H
           exact absurd H (by simp)
         ·rw [if_neg c17] at H
          have c17b0 : decide (ac < ae) = false := decide_eq_false c17
          clear c17
          obtain rfl := Option.some.inj H
          have hcz27_0 : wc.cell? ⟨ab, 0, none⟩ = some (.int .u32 af) := (blk_cell aa.out 0).trans rfl
          have hcz27_1 : wc.cell? ⟨ab, 1, none⟩ = some (.int .i64 ad) := (blk_cell aa.out 1).trans rfl
          have hcz27_2 : wc.cell? ⟨ab, 2, none⟩ = some (.int .i64 ac) := (blk_cell aa.out 2).trans rfl
          have hcz27_3 : wc.cell? ⟨ab, 3, none⟩ = some (.int .i64 ae) := (blk_cell aa.out 3).trans rfl
          have hcz27_4 : wc.cell? ⟨ab, 4, none⟩ = some (.bool ah) := (blk_cell aa.out 4).trans rfl
          have hfz27_0 := blk_frozen aa.out 0
          have hfz27_1 := blk_frozen aa.out 1
          have hfz27_2 := blk_frozen aa.out 2
          have hfz27_3 := blk_frozen aa.out 3
          have hfz27_4 := blk_frozen aa.out 4
          go_wp2_with (first | ((with_reducible refine gate_callee (f := 30) rfl ?_); refine goesL_ (some 13) rfl rfl Try.func30 (by kernel_rfl) rfl #[.agg #[.int .u32 af, .int .i64 ad]] rfl (by (try simp only [List.map_toArray, List.map_cons, List.map_nil]); first | done | rfl) ?_; (with_reducible refine (whirligigref01_Text.calls aj af ad t144 _ A11.out).mono ?_); rintro e w28 ⟨rfl, hb⟩; refine ⟨_, rfl, ?_⟩; replace aa := Aside0.mk (blk_below (g := ab) (by (with_reducible repeat (first | refine blk_drewN ?_ _ | refine blk_drew ?_ | refine blk_alloc ?_ _)); exact aa.out) hb); replace HB := Aside0.mk (below_step (by repeat (first | (with_reducible first | exact HB.out | apply below_alloc | apply pw_below_drewN | apply below_drew1 | refine below_set ?_ ag.out) | exact HB.out)) hb); (try clear hb); (try clear ai); (try clear hk); (try clear hi); have hcz29_0 : w28.cell? ⟨ab, 0, none⟩ = some (.int .u32 af) := (blk_cell aa.out 0).trans rfl; have hcz29_1 : w28.cell? ⟨ab, 1, none⟩ = some (.int .i64 ad) := (blk_cell aa.out 1).trans rfl; have hcz29_2 : w28.cell? ⟨ab, 2, none⟩ = some (.int .i64 ac) := (blk_cell aa.out 2).trans rfl; have hcz29_3 : w28.cell? ⟨ab, 3, none⟩ = some (.int .i64 ae) := (blk_cell aa.out 3).trans rfl; have hcz29_4 : w28.cell? ⟨ab, 4, none⟩ = some (.bool ah) := (blk_cell aa.out 4).trans rfl; have hfz29_0 := blk_frozen aa.out 0; have hfz29_1 := blk_frozen aa.out 1; have hfz29_2 := blk_frozen aa.out 2; have hfz29_3 := blk_frozen aa.out 3; have hfz29_4 := blk_frozen aa.out 4) | ((with_reducible refine gate_callee (f := 31) rfl ?_); refine goesL_ (some 25) rfl rfl Try.func31 (by kernel_rfl) rfl #[.int .i64 ac] rfl (by (try simp only [List.map_toArray, List.map_cons, List.map_nil]); first | done | rfl) ?_; (with_reducible refine (whirligigref01_Number.calls aj ac t145 _ A15.out).mono ?_); rintro e w30 ⟨rfl, hb⟩; refine ⟨_, rfl, ?_⟩; replace aa := Aside0.mk (blk_below (g := ab) (by (with_reducible repeat (first | refine blk_drewN ?_ _ | refine blk_drew ?_ | refine blk_alloc ?_ _)); exact aa.out) hb); replace HB := Aside0.mk (below_step (by repeat (first | (with_reducible first | exact HB.out | apply below_alloc | apply pw_below_drewN | apply below_drew1 | refine below_set ?_ ag.out) | exact HB.out)) hb); (try clear hb); (try clear ai); (try clear hk); (try clear hi); have hcz31_0 : w30.cell? ⟨ab, 0, none⟩ = some (.int .u32 af) := (blk_cell aa.out 0).trans rfl; have hcz31_1 : w30.cell? ⟨ab, 1, none⟩ = some (.int .i64 ad) := (blk_cell aa.out 1).trans rfl; have hcz31_2 : w30.cell? ⟨ab, 2, none⟩ = some (.int .i64 ac) := (blk_cell aa.out 2).trans rfl; have hcz31_3 : w30.cell? ⟨ab, 3, none⟩ = some (.int .i64 ae) := (blk_cell aa.out 3).trans rfl; have hcz31_4 : w30.cell? ⟨ab, 4, none⟩ = some (.bool ah) := (blk_cell aa.out 4).trans rfl; have hfz31_0 := blk_frozen aa.out 0; have hfz31_1 := blk_frozen aa.out 1; have hfz31_2 := blk_frozen aa.out 2; have hfz31_3 := blk_frozen aa.out 3; have hfz31_4 := blk_frozen aa.out 4))
          go_ret
          exact ⟨by first | rfl | (simp [errW_none, errW_some] <;> rfl) | (simp [*, errW_none, errW_some] <;> rfl), by repeat (first | (with_reducible first | exact HB.out | apply below_alloc | apply pw_below_drewN | apply below_drew1 | refine below_set ?_ ag.out) | exact HB.out)⟩
        ·rw [if_neg c16] at H
         exact absurd H (by simp)
       ·rw [if_neg c14] at H
        exact absurd H (by simp)
      ·rw [if_neg c13] at H
       have c13b0 : decide (ad < ac) = false := decide_eq_false c13
       clear c13
       by_cases c32 : ae > ac
       ·rw [if_pos c32] at H
        have c32b0 : decide (ac < ae) = true := decide_eq_true c32
        clear c32
        by_cases c33 : ((x3_3 ++ (⟨#[32]⟩ : ByteArray)) ++ t144).size + 4 ≤ 9223372036854775807
        ·rw [if_pos c33] at H
         have c33b0 := eq_true c33
         have c33b1 : decide (((x3_3 ++ (⟨#[32]⟩ : ByteArray)) ++ t144).size + 4 ≤ 9223372036854775807) = true := decide_eq_true c33
         try have c33b2 : (9223372036854775807 < ((x3_3 ++ (⟨#[32]⟩ : ByteArray)) ++ t144).size + 4) = False := eq_false (Nat.not_lt.2 c33)
         try have c33b3 : (9223372036854775807 < x3_3.size + 1 + t144.size + 4) = False := eq_false (Nat.not_lt.2 (by have h_ := c33; (try simp only [ByteArray.size_append] at h_); first | exact h_ | (simp only [ByteArray.size_extract] at h_; simp only [decide_eq_true_eq] at *; omega)))
         replace H := Option.bind_eq_some_iff.mp H
         obtain ⟨t147, A340, H⟩ := H
         (try dsimp only at H)
         have A34 := Aside0.mk A340
         clear A340
         by_cases c35 : (((x3_3 ++ (⟨#[32]⟩ : ByteArray)) ++ t144) ++ (⟨#[32, 108, 101, 32]⟩ : ByteArray)).size + t147.size ≤ 9223372036854775807
         ·rw [if_pos c35] at H
          have c35b0 := eq_true c35
          have c35b1 : decide ((((x3_3 ++ (⟨#[32]⟩ : ByteArray)) ++ t144) ++ (⟨#[32, 108, 101, 32]⟩ : ByteArray)).size + t147.size ≤ 9223372036854775807) = true := decide_eq_true c35
          try have c35b2 : (9223372036854775807 < (((x3_3 ++ (⟨#[32]⟩ : ByteArray)) ++ t144) ++ (⟨#[32, 108, 101, 32]⟩ : ByteArray)).size + t147.size) = False := eq_false (Nat.not_lt.2 c35)
          try have c35b3 : (9223372036854775807 < x3_3.size + 1 + t144.size + 4 + t147.size) = False := eq_false (Nat.not_lt.2 (by have h_ := c35; (try simp only [ByteArray.size_append] at h_); first | exact h_ | (simp only [ByteArray.size_extract] at h_; simp only [decide_eq_true_eq] at *; omega)))
          obtain rfl := Option.some.inj H
          have hcz36_0 : wc.cell? ⟨ab, 0, none⟩ = some (.int .u32 af) := (blk_cell aa.out 0).trans rfl
          have hcz36_1 : wc.cell? ⟨ab, 1, none⟩ = some (.int .i64 ad) := (blk_cell aa.out 1).trans rfl
          have hcz36_2 : wc.cell? ⟨ab, 2, none⟩ = some (.int .i64 ac) := (blk_cell aa.out 2).trans rfl
          have hcz36_3 : wc.cell? ⟨ab, 3, none⟩ = some (.int .i64 ae) := (blk_cell aa.out 3).trans rfl
          have hcz36_4 : wc.cell? ⟨ab, 4, none⟩ = some (.bool ah) := (blk_cell aa.out 4).trans rfl
          have hfz36_0 := blk_frozen aa.out 0
          have hfz36_1 := blk_frozen aa.out 1
          have hfz36_2 := blk_frozen aa.out 2
          have hfz36_3 := blk_frozen aa.out 3
          have hfz36_4 := blk_frozen aa.out 4
          go_wp2_with (first | ((with_reducible refine gate_callee (f := 30) rfl ?_); refine goesL_ (some 13) rfl rfl Try.func30 (by kernel_rfl) rfl #[.agg #[.int .u32 af, .int .i64 ad]] rfl (by (try simp only [List.map_toArray, List.map_cons, List.map_nil]); first | done | rfl) ?_; (with_reducible refine (whirligigref01_Text.calls aj af ad t144 _ A11.out).mono ?_); rintro e w37 ⟨rfl, hb⟩; refine ⟨_, rfl, ?_⟩; replace aa := Aside0.mk (blk_below (g := ab) (by (with_reducible repeat (first | refine blk_drewN ?_ _ | refine blk_drew ?_ | refine blk_alloc ?_ _)); exact aa.out) hb); replace HB := Aside0.mk (below_step (by repeat (first | (with_reducible first | exact HB.out | apply below_alloc | apply pw_below_drewN | apply below_drew1 | refine below_set ?_ ag.out) | exact HB.out)) hb); (try clear hb); (try clear ai); (try clear hk); (try clear hi); have hcz38_0 : w37.cell? ⟨ab, 0, none⟩ = some (.int .u32 af) := (blk_cell aa.out 0).trans rfl; have hcz38_1 : w37.cell? ⟨ab, 1, none⟩ = some (.int .i64 ad) := (blk_cell aa.out 1).trans rfl; have hcz38_2 : w37.cell? ⟨ab, 2, none⟩ = some (.int .i64 ac) := (blk_cell aa.out 2).trans rfl; have hcz38_3 : w37.cell? ⟨ab, 3, none⟩ = some (.int .i64 ae) := (blk_cell aa.out 3).trans rfl; have hcz38_4 : w37.cell? ⟨ab, 4, none⟩ = some (.bool ah) := (blk_cell aa.out 4).trans rfl; have hfz38_0 := blk_frozen aa.out 0; have hfz38_1 := blk_frozen aa.out 1; have hfz38_2 := blk_frozen aa.out 2; have hfz38_3 := blk_frozen aa.out 3; have hfz38_4 := blk_frozen aa.out 4) | ((with_reducible refine gate_callee (f := 31) rfl ?_); refine goesL_ (some 36) rfl rfl Try.func31 (by kernel_rfl) rfl #[.int .i64 ae] rfl (by (try simp only [List.map_toArray, List.map_cons, List.map_nil]); first | done | rfl) ?_; (with_reducible refine (whirligigref01_Number.calls aj ae t147 _ A34.out).mono ?_); rintro e w39 ⟨rfl, hb⟩; refine ⟨_, rfl, ?_⟩; replace aa := Aside0.mk (blk_below (g := ab) (by (with_reducible repeat (first | refine blk_drewN ?_ _ | refine blk_drew ?_ | refine blk_alloc ?_ _)); exact aa.out) hb); replace HB := Aside0.mk (below_step (by repeat (first | (with_reducible first | exact HB.out | apply below_alloc | apply pw_below_drewN | apply below_drew1 | refine below_set ?_ ag.out) | exact HB.out)) hb); (try clear hb); (try clear ai); (try clear hk); (try clear hi)))
          go_ret
          exact ⟨by first | rfl | (simp [errW_none, errW_some] <;> rfl) | (simp [*, errW_none, errW_some] <;> rfl), by repeat (first | (with_reducible first | exact HB.out | apply below_alloc | apply pw_below_drewN | apply below_drew1 | refine below_set ?_ ag.out) | exact HB.out)⟩
         ·rw [if_neg c35] at H
          exact absurd H (by simp)
        ·rw [if_neg c33] at H
         exact absurd H (by simp)
       ·rw [if_neg c32] at H
        have c32b0 : decide (ac < ae) = false := decide_eq_false c32
        clear c32
        obtain rfl := Option.some.inj H
        have hcz40_0 : wc.cell? ⟨ab, 0, none⟩ = some (.int .u32 af) := (blk_cell aa.out 0).trans rfl
        have hcz40_1 : wc.cell? ⟨ab, 1, none⟩ = some (.int .i64 ad) := (blk_cell aa.out 1).trans rfl
        have hcz40_2 : wc.cell? ⟨ab, 2, none⟩ = some (.int .i64 ac) := (blk_cell aa.out 2).trans rfl
        have hcz40_3 : wc.cell? ⟨ab, 3, none⟩ = some (.int .i64 ae) := (blk_cell aa.out 3).trans rfl
        have hcz40_4 : wc.cell? ⟨ab, 4, none⟩ = some (.bool ah) := (blk_cell aa.out 4).trans rfl
        have hfz40_0 := blk_frozen aa.out 0
        have hfz40_1 := blk_frozen aa.out 1
        have hfz40_2 := blk_frozen aa.out 2
        have hfz40_3 := blk_frozen aa.out 3
        have hfz40_4 := blk_frozen aa.out 4
        go_wp2_with (first | ((with_reducible refine gate_callee (f := 30) rfl ?_); refine goesL_ (some 13) rfl rfl Try.func30 (by kernel_rfl) rfl #[.agg #[.int .u32 af, .int .i64 ad]] rfl (by (try simp only [List.map_toArray, List.map_cons, List.map_nil]); first | done | rfl) ?_; (with_reducible refine (whirligigref01_Text.calls aj af ad t144 _ A11.out).mono ?_); rintro e w41 ⟨rfl, hb⟩; refine ⟨_, rfl, ?_⟩; replace aa := Aside0.mk (blk_below (g := ab) (by (with_reducible repeat (first | refine blk_drewN ?_ _ | refine blk_drew ?_ | refine blk_alloc ?_ _)); exact aa.out) hb); replace HB := Aside0.mk (below_step (by repeat (first | (with_reducible first | exact HB.out | apply below_alloc | apply pw_below_drewN | apply below_drew1 | refine below_set ?_ ag.out) | exact HB.out)) hb); (try clear hb); (try clear ai); (try clear hk); (try clear hi); have hcz42_0 : w41.cell? ⟨ab, 0, none⟩ = some (.int .u32 af) := (blk_cell aa.out 0).trans rfl; have hcz42_1 : w41.cell? ⟨ab, 1, none⟩ = some (.int .i64 ad) := (blk_cell aa.out 1).trans rfl; have hcz42_2 : w41.cell? ⟨ab, 2, none⟩ = some (.int .i64 ac) := (blk_cell aa.out 2).trans rfl; have hcz42_3 : w41.cell? ⟨ab, 3, none⟩ = some (.int .i64 ae) := (blk_cell aa.out 3).trans rfl; have hcz42_4 : w41.cell? ⟨ab, 4, none⟩ = some (.bool ah) := (blk_cell aa.out 4).trans rfl; have hfz42_0 := blk_frozen aa.out 0; have hfz42_1 := blk_frozen aa.out 1; have hfz42_2 := blk_frozen aa.out 2; have hfz42_3 := blk_frozen aa.out 3; have hfz42_4 := blk_frozen aa.out 4))
        go_ret
        exact ⟨by first | rfl | (simp [errW_none, errW_some] <;> rfl) | (simp [*, errW_none, errW_some] <;> rfl), by repeat (first | (with_reducible first | exact HB.out | apply below_alloc | apply pw_below_drewN | apply below_drew1 | refine below_set ?_ ag.out) | exact HB.out)⟩
     ·rw [if_neg c12] at H
      exact absurd H (by simp)
    ·rw [if_neg c10] at H
     exact absurd H (by simp)
 ·replace c3 := Bool.eq_false_iff.mpr c3
  subst c3
  have H1 : (some (⟨#[]⟩ : ByteArray)) = some r := by rw [if_neg (show ¬ (false = true) by decide)] at H; exact H
  clear H
  have H := H1
  clear H1
  obtain rfl := Option.some.inj H
  go_enter Try.func10, Try.ntmps10
  go_wp2_with (first | ((with_reducible refine gate_dst (N := 1) rfl ?_); refine box_event ?hg (N := 1) ?hd (cs := #[.int .u32 af, .int .i64 ad, .int .i64 ac, .int .i64 ae, .bool ah]) (t := 26) ?hr ?_; (case hd => rfl); (case hg => rfl); (case hr => first | (go_simp; done) | (go_simp; rfl)); intro ab hg w43 hbox hb; have n0_ := Aside0.mk (below_step (by repeat (first | (with_reducible first | exact HB.out | apply below_alloc | apply pw_below_drewN | apply below_drew1) | exact HB.out)) hb); have n1_ := Aside0.mk (hbox); have n2_ := Aside0.mk ((by rw [hg]; exact (below_size (by repeat (first | (with_reducible first | exact HB.out | apply below_alloc | apply pw_below_drewN | apply below_drew1) | exact HB.out))) : w.heap.size ≤ ab)); have n3_ := Aside0.mk ((by rw [hg]; exact (below_size (by repeat (first | (with_reducible first | exact HB.out | apply below_alloc | apply pw_below_drewN | apply below_drew1) | exact HB.out))) : w.heap.size ≤ ab)); clear HB; have HB := n0_; have aa := n1_; have GW142 := n2_; have ag := n3_; clear n0_ n1_ n2_ n3_; clear hb hbox hg; have hcz44_0 : w43.cell? ⟨ab, 0, none⟩ = some (.int .u32 af) := (blk_cell aa.out 0).trans rfl; have hcz44_1 : w43.cell? ⟨ab, 1, none⟩ = some (.int .i64 ad) := (blk_cell aa.out 1).trans rfl; have hcz44_2 : w43.cell? ⟨ab, 2, none⟩ = some (.int .i64 ac) := (blk_cell aa.out 2).trans rfl; have hcz44_3 : w43.cell? ⟨ab, 3, none⟩ = some (.int .i64 ae) := (blk_cell aa.out 3).trans rfl; have hcz44_4 : w43.cell? ⟨ab, 4, none⟩ = some (.bool ah) := (blk_cell aa.out 4).trans rfl; have hfz44_0 := blk_frozen aa.out 0; have hfz44_1 := blk_frozen aa.out 1; have hfz44_2 := blk_frozen aa.out 2; have hfz44_3 := blk_frozen aa.out 3; have hfz44_4 := blk_frozen aa.out 4) | ((with_reducible refine gate_callee (f := 11) rfl ?_); refine goesL_ (some 5) rfl rfl Try.func11 (by kernel_rfl) rfl #[.agg #[.int .u32 af, .int .i64 ad, .int .i64 ac, .int .i64 ae, .bool ah]] rfl (by (try simp only [List.map_toArray, List.map_cons, List.map_nil]); first | done | rfl) ?_; (with_reducible refine (whirligigref02_May.calls k af ad ac ae ah false _ A2.out).mono ?_); rintro e w45 ⟨rfl, hb⟩; refine ⟨_, rfl, ?_⟩; replace aa := Aside0.mk (blk_below (g := ab) (by (with_reducible repeat (first | refine blk_drewN ?_ _ | refine blk_drew ?_ | refine blk_alloc ?_ _)); exact aa.out) hb); replace HB := Aside0.mk (below_step (by repeat (first | (with_reducible first | exact HB.out | apply below_alloc | apply pw_below_drewN | apply below_drew1 | refine below_set ?_ ag.out) | exact HB.out)) hb); (try clear hb); (try clear ai); (try clear hk); (try clear hi)))
  go_ret
  exact ⟨by first | rfl | (simp [errW_none, errW_some] <;> rfl) | (simp [*, errW_none, errW_some] <;> rfl), by repeat (first | (with_reducible first | exact HB.out | apply below_alloc | apply pw_below_drewN | apply below_drew1 | refine below_set ?_ ag.out) | exact HB.out)⟩

/-! ### addr_Has: function 59 -/
def addr_Has.f (a0_0 : Int) (a0_1 : Int) (a1 : Int) : Option (Bool) := (addr_May.f a0_0 a0_1).bind fun t149 => (if t149 = true then ((addr_mask.f a0_1).bind fun t150 => (some ((Go.bits .and .u32 a1 t150) == a0_0))) else (some false))
def addr_Has.T1 : Bool × List (List Nat × List Nat) := (true, [([], []), ([0], [0]), ([1, 1], [1]), ([2], [2]), ([2], [2]), ([4, 2], [2, 4]), ([5, 2, 2], [2, 5]), ([3, 6, 2], [2, 3, 6]), ([2], [2]), ([8, 2], [2, 8]), ([7, 9, 2], [2, 7, 9]), ([2, 10], [2, 10]), ([11, 6, 0, 1, 2, 3, 4, 5, 6, 7, 8, 9, 10, 11], [11])])
def addr_Has.B1 : List Nat := [0, 1, 3, 7, 7, 23, 55, 127, 7, 263, 1023, 2047, 4095]
theorem addr_Has.tab1 : rtab .any (opsOf Try.f59 1) = addr_Has.T1 := by kernel_rfl
theorem addr_Has.bits1 : waitsOk addr_Has.T1.2 addr_Has.B1 = true := by kernel_rfl
theorem ka1ab.b2e {W : World} {g : Nat} {v0 v1 : Value} {t : TypeId} (h : W.heap[g]? = some (.cells #[v0, v1] t (0, 0))) : W.cell? ⟨g, 0, none⟩ = some v0 ∧ W.cell? ⟨g, 1, none⟩ = some v1 :=
  ⟨(blk_cell h 0).trans rfl, (blk_cell h 1).trans rfl⟩
@[reducible] def ka1ab.S0 (g0 : Nat) (v0 v1 : Value) (w' : World) : Prop := w'.cell? ⟨g0, 0, none⟩ = some v0 ∧ w'.cell? ⟨g0, 1, none⟩ = some v1
set_option maxHeartbeats 8000000 in
set_option maxRecDepth 100000 in
theorem addr_Has.calls (ac : Int) (ab : Int) (a1 : Int) (r : Bool) (w : World) (h : addr_Has.f ac ab a1 = some r) :
  Calls Try.prog 59 #[.agg #[.int .u32 ac, .int .i64 ab], .int .u32 a1] w fun e w' => e = .returned (.bool r) ∧ Below w.heap.size w w' := by
 have hu24 := Try.underlying24
 have HB := Aside0.mk (Below.refl w.heap.size w)
 have H : ((addr_May.f ac ab).bind fun t149 => (if t149 = true then ((addr_mask.f ab).bind fun t150 => (some ((Go.bits .and .u32 a1 t150) == ac))) else (some false))) = some r := h
 clear h
 replace H := Option.bind_eq_some_iff.mp H
 obtain ⟨t149, A30, H⟩ := H
 (try dsimp only at H)
 have A3 := Aside0.mk A30
 clear A30
 by_cases c4 : t149 = true
 ·subst c4
  have H1 : ((addr_mask.f ab).bind fun t150 => (some ((Go.bits .and .u32 a1 t150) == ac))) = some r := by rw [if_pos rfl] at H; exact H
  clear H
  have H := H1
  clear H1
  replace H := Option.bind_eq_some_iff.mp H
  obtain ⟨t150, A50, H⟩ := H
  replace H : (some ((Go.bits .and .u32 a1 t150) == ac)) = some r := H
  have A5 := Aside0.mk A50
  clear A50
  obtain rfl := Option.some.inj H
  go_enter Try.func59, Try.ntmps59
  try go_wp2_with (first | ((with_reducible refine gate_dst (N := 2) rfl ?_); refine box_event ?hg (N := 2) ?hd (cs := #[.int .u32 ac, .int .i64 ab]) (t := 24) ?hr ?_; (case hd => rfl); (case hg => rfl); (case hr => first | (go_simp; done) | (go_simp; rfl)); intro ad hg w6 hbox hb; have n0_ := Aside0.mk (below_step (by repeat (first | (with_reducible first | exact HB.out | apply below_alloc | apply pw_below_drewN | apply below_drew1) | exact HB.out)) hb); have n1_ := Aside0.mk (hbox); have n2_ := Aside0.mk ((by rw [hg]; exact (below_size (by repeat (first | (with_reducible first | exact HB.out | apply below_alloc | apply pw_below_drewN | apply below_drew1) | exact HB.out))) : w.heap.size ≤ ad)); have n3_ := Aside0.mk ((by rw [hg]; exact (below_size (by repeat (first | (with_reducible first | exact HB.out | apply below_alloc | apply pw_below_drewN | apply below_drew1) | exact HB.out))) : w.heap.size ≤ ad)); clear HB; have HB := n0_; have aa := n1_; have GW148 := n2_; have GE148 := n3_; clear n0_ n1_ n2_ n3_; clear hb hbox hg))
  have n0_ := Aside0.mk (blk_drew aa.out)
  have n1_ := Aside0.mk (below_drew1 HB.out)
  clear aa
  clear HB
  have aa := n0_
  have HB := n1_
  clear n0_ n1_
  refine start_ (n := 13) (S := ka1ab.S0 ad (.int .u32 ac) (.int .i64 ab)) (ds := []) #[false, false, false, false, false, false, false, false, false, false, false, false, false] (by kernel_rfl) rfl rfl (ka1ab.b2e aa.out) (fun hHeld => ?_); refine with_tabW addr_Has.tab1 addr_Has.bits1 (fun HT_ HW_ => ?_)
  generalize w6.drew = w7 at aa HB hHeld ⊢
  refine take_ (i := 0) (N := some 5) (v := ?_) (a' := ?_) #[true, false, false, false, false, false, false, false, false, false, false, false, false] rfl rfl (take_ofW HT_.out HW_.out (by kernel_rfl)) (fun _ _ _ h => h) (Or.inl ⟨by rfl, ?_⟩) hHeld ?_ ?_
  rotate_left
  ·rintro w' ⟨s0, s1⟩
   go_simp
   with_reducible rfl
  rotate_left
  ·simp only [Act.put, List.setIfInBounds_toArray, List.set_cons_zero, List.set_cons_succ, i64_w]
   rfl
  refine one_ (i := 1) (N := some 6) #[true, true, false, false, false, false, false, false, false, false, false, false, false] rfl rfl (one_of HT_.out (by kernel_rfl)) (by decide) (fun K hK => ?_)
  refine goes_ Try.func32 (by kernel_rfl) rfl #[.agg #[.int .u32 ac, .int .i64 ab]] (by rfl) rfl rfl (by (try simp only [List.map_toArray, List.map_cons, List.map_nil]); first | done | rfl) ?_
  with_reducible refine (addr_May.calls ac ab true _ A3.out).mono ?_
  rintro e w8 ⟨rfl, hb⟩
  refine ⟨_, rfl, ?_⟩
  replace aa := Aside0.mk (blk_below (g := ad) (by (with_reducible repeat (first | refine blk_drewN ?_ _ | refine blk_drew ?_ | refine blk_alloc ?_ _)); exact aa.out) hb)
  replace HB := Aside0.mk (below_step (by repeat (first | (with_reducible first | exact HB.out | apply below_alloc | apply pw_below_drewN | apply below_drew1 | refine below_set ?_ GE148.out) | exact HB.out)) hb)
  (try clear hb)
  (try clear hb2)
  (try clear hk)
  (try clear hi)
  refine hK.out _ _ (ka1ab.b2e aa.out) (fun hHeld => ?_)
  clear hK K
  refine norm_ (a' := ?_) ?_ ?_
  rotate_left
  ·show Act.put _ (some 6) _ = _
   simp only [Act.put, List.setIfInBounds_toArray, List.set_cons_zero, List.set_cons_succ, i64_w]
   rfl
  refine pure_ (i := 2) (N := some 7) (v := ?_) (a' := ?_) #[true, true, true, false, false, false, false, false, false, false, false, false, false] rfl rfl (any_of HT_.out (by kernel_rfl)) (fun _ _ _ h => h) (Or.inl ⟨by rfl, ?_⟩) ?_ ?_
  rotate_left
  ·intro w'
   go_simp
   with_reducible rfl
  rotate_left
  ·simp only [Act.put, List.setIfInBounds_toArray, List.set_cons_zero, List.set_cons_succ, i64_w]
   rfl
  refine pure_ (i := 3) (N := some 8) (v := ?_) (a' := ?_) #[true, true, true, true, false, false, false, false, false, false, false, false, false] rfl rfl (any_of HT_.out (by kernel_rfl)) (fun _ _ _ h => h) (Or.inl ⟨by rfl, ?_⟩) ?_ ?_
  rotate_left
  ·intro w'
   go_simp
   with_reducible rfl
  rotate_left
  ·simp only [Act.put, List.setIfInBounds_toArray, List.set_cons_zero, List.set_cons_succ, i64_w]
   rfl
  refine pure_ (i := 4) (N := some 9) (v := ?_) (a' := ?_) #[true, true, true, true, true, false, false, false, false, false, false, false, false] rfl rfl (any_of HT_.out (by kernel_rfl)) (fun _ _ _ h => h) (Or.inl ⟨by rfl, ?_⟩) ?_ ?_
  rotate_left
  ·intro w'
   go_simp
   with_reducible rfl
  rotate_left
  ·simp only [Act.put, List.setIfInBounds_toArray, List.set_cons_zero, List.set_cons_succ, i64_w]
   rfl
  refine pure_ (i := 8) (N := some 13) (v := ?_) (a' := ?_) #[true, true, true, true, true, false, false, false, true, false, false, false, false] rfl rfl (any_of HT_.out (by kernel_rfl)) (fun _ _ _ h => h) (Or.inl ⟨by rfl, ?_⟩) ?_ ?_
  rotate_left
  ·intro w'
   go_simp
   with_reducible rfl
  rotate_left
  ·simp only [Act.put, List.setIfInBounds_toArray, List.set_cons_zero, List.set_cons_succ, i64_w]
   rfl
  refine take_ (i := 5) (N := some 10) (v := ?_) (a' := ?_) #[true, true, true, true, true, true, false, false, true, false, false, false, false] rfl rfl (take_ofW HT_.out HW_.out (by kernel_rfl)) (fun _ _ _ h => h) (Or.inl ⟨by rfl, ?_⟩) hHeld ?_ ?_
  rotate_left
  ·rintro w' ⟨s0, s1⟩
   go_simp
   with_reducible rfl
  rotate_left
  ·simp only [Act.put, List.setIfInBounds_toArray, List.set_cons_zero, List.set_cons_succ, i64_w]
   rfl
  refine take_ (i := 9) (N := some 14) (v := ?_) (a' := ?_) #[true, true, true, true, true, true, false, false, true, true, false, false, false] rfl rfl (take_ofW HT_.out HW_.out (by kernel_rfl)) (fun _ _ _ h => h) (Or.inl ⟨by rfl, ?_⟩) hHeld ?_ ?_
  rotate_left
  ·rintro w' ⟨s0, s1⟩
   go_simp
   with_reducible rfl
  rotate_left
  ·simp only [Act.put, List.setIfInBounds_toArray, List.set_cons_zero, List.set_cons_succ, i64_w]
   rfl
  refine one_ (i := 6) (N := some 11) #[true, true, true, true, true, true, true, false, true, true, false, false, false] rfl rfl (one_of HT_.out (by kernel_rfl)) (by decide) (fun K hK => ?_)
  refine goes_ Try.func44 (by kernel_rfl) rfl #[.int .i64 ab] (by rfl) rfl rfl (by (try simp only [List.map_toArray, List.map_cons, List.map_nil]); first | done | rfl) ?_
  with_reducible refine (addr_mask.calls ab t150 _ A5.out).mono ?_
  rintro e w' ⟨rfl, ⟨nd, rfl⟩⟩
  refine ⟨_, rfl, ?_⟩
  refine hK.out _ _ (ka1ab.b2e aa.out) (fun hHeld => ?_)
  clear hK K
  refine norm_ (a' := ?_) ?_ ?_
  rotate_left
  ·show Act.put _ (some 11) _ = _
   simp only [Act.put, List.setIfInBounds_toArray, List.set_cons_zero, List.set_cons_succ, i64_w]
   rfl
  refine pure_ (i := 7) (N := some 12) (v := ?_) (a' := ?_) #[true, true, true, true, true, true, true, true, true, true, false, false, false] rfl rfl (any_of HT_.out (by kernel_rfl)) (fun _ _ _ h => h) (Or.inl ⟨by rfl, ?_⟩) ?_ ?_
  rotate_left
  ·intro w'
   go_simp
   with_reducible rfl
  rotate_left
  ·simp only [Act.put, List.setIfInBounds_toArray, List.set_cons_zero, List.set_cons_succ, i64_w]
   rfl
  refine pure_ (i := 10) (N := some 15) (v := ?_) (a' := ?_) #[true, true, true, true, true, true, true, true, true, true, true, false, false] rfl rfl (any_of HT_.out (by kernel_rfl)) (fun _ _ _ h => h) (Or.inl ⟨by rfl, ?_⟩) ?_ ?_
  rotate_left
  ·intro w'
   go_simp
   with_reducible rfl
  rotate_left
  ·simp only [Act.put, List.setIfInBounds_toArray, List.set_cons_zero, List.set_cons_succ, i64_w]
   rfl
  refine pure_ (i := 11) (N := some 16) (v := ?_) (a' := ?_) #[true, true, true, true, true, true, true, true, true, true, true, true, false] rfl rfl (any_of HT_.out (by kernel_rfl)) (fun _ _ _ h => h) (Or.inl ⟨by rfl, ?_⟩) ?_ ?_
  rotate_left
  ·intro w'
   go_simp
   with_reducible rfl
  rotate_left
  ·simp only [Act.put, List.setIfInBounds_toArray, List.set_cons_zero, List.set_cons_succ, i64_w]
   rfl
  refine pure_ (i := 12) (N := some 4) (v := ?_) (a' := ?_) #[true, true, true, true, true, true, true, true, true, true, true, true, true] rfl rfl (any_of HT_.out (by kernel_rfl)) (fun _ _ _ h => h) (Or.inl ⟨by rfl, ?_⟩) ?_ ?_
  rotate_left
  ·intro w'
   go_simp
   with_reducible rfl
  rotate_left
  ·simp only [Act.put, List.setIfInBounds_toArray, List.set_cons_zero, List.set_cons_succ, i64_w]
   rfl
  refine done_ (done_of HT_.out (by kernel_rfl)) ?_
  try go_wp2
  go_ret
  exact ⟨by first | rfl | (simp [errW_none, errW_some] <;> rfl) | (simp [*, errW_none, errW_some] <;> rfl), by repeat (first | (with_reducible first | exact HB.out | apply below_alloc | apply pw_below_drewN | apply below_drew1 | refine below_set ?_ GE148.out) | exact HB.out)⟩
 ·replace c4 := Bool.eq_false_iff.mpr c4
  subst c4
  have H1 : (some false) = some r := by rw [if_neg (show ¬ (false = true) by decide)] at H; exact H
  clear H
  have H := H1
  clear H1
  obtain rfl := Option.some.inj H
  go_enter Try.func59, Try.ntmps59
  try go_wp2_with (first | ((with_reducible refine gate_dst (N := 2) rfl ?_); refine box_event ?hg (N := 2) ?hd (cs := #[.int .u32 ac, .int .i64 ab]) (t := 24) ?hr ?_; (case hd => rfl); (case hg => rfl); (case hr => first | (go_simp; done) | (go_simp; rfl)); intro ad hg w9 hbox hb; have n0_ := Aside0.mk (below_step (by repeat (first | (with_reducible first | exact HB.out | apply below_alloc | apply pw_below_drewN | apply below_drew1) | exact HB.out)) hb); have n1_ := Aside0.mk (hbox); have n2_ := Aside0.mk ((by rw [hg]; exact (below_size (by repeat (first | (with_reducible first | exact HB.out | apply below_alloc | apply pw_below_drewN | apply below_drew1) | exact HB.out))) : w.heap.size ≤ ad)); have n3_ := Aside0.mk ((by rw [hg]; exact (below_size (by repeat (first | (with_reducible first | exact HB.out | apply below_alloc | apply pw_below_drewN | apply below_drew1) | exact HB.out))) : w.heap.size ≤ ad)); clear HB; have HB := n0_; have aa := n1_; have GW148 := n2_; have GE148 := n3_; clear n0_ n1_ n2_ n3_; clear hb hbox hg))
  have n0_ := Aside0.mk (blk_drew aa.out)
  have n1_ := Aside0.mk (below_drew1 HB.out)
  clear aa
  clear HB
  have aa := n0_
  have HB := n1_
  clear n0_ n1_
  refine start_ (n := 13) (S := ka1ab.S0 ad (.int .u32 ac) (.int .i64 ab)) (ds := []) #[false, false, false, false, false, false, false, false, false, false, false, false, false] (by kernel_rfl) rfl rfl (ka1ab.b2e aa.out) (fun hHeld => ?_); refine with_tabW addr_Has.tab1 addr_Has.bits1 (fun HT_ HW_ => ?_)
  generalize w9.drew = w10 at aa HB hHeld ⊢
  refine take_ (i := 0) (N := some 5) (v := ?_) (a' := ?_) #[true, false, false, false, false, false, false, false, false, false, false, false, false] rfl rfl (take_ofW HT_.out HW_.out (by kernel_rfl)) (fun _ _ _ h => h) (Or.inl ⟨by rfl, ?_⟩) hHeld ?_ ?_
  rotate_left
  ·rintro w' ⟨s0, s1⟩
   go_simp
   with_reducible rfl
  rotate_left
  ·simp only [Act.put, List.setIfInBounds_toArray, List.set_cons_zero, List.set_cons_succ, i64_w]
   rfl
  refine one_ (i := 1) (N := some 6) #[true, true, false, false, false, false, false, false, false, false, false, false, false] rfl rfl (one_of HT_.out (by kernel_rfl)) (by decide) (fun K hK => ?_)
  refine goes_ Try.func32 (by kernel_rfl) rfl #[.agg #[.int .u32 ac, .int .i64 ab]] (by rfl) rfl rfl (by (try simp only [List.map_toArray, List.map_cons, List.map_nil]); first | done | rfl) ?_
  with_reducible refine (addr_May.calls ac ab false _ A3.out).mono ?_
  rintro e w11 ⟨rfl, hb⟩
  refine ⟨_, rfl, ?_⟩
  replace aa := Aside0.mk (blk_below (g := ad) (by (with_reducible repeat (first | refine blk_drewN ?_ _ | refine blk_drew ?_ | refine blk_alloc ?_ _)); exact aa.out) hb)
  replace HB := Aside0.mk (below_step (by repeat (first | (with_reducible first | exact HB.out | apply below_alloc | apply pw_below_drewN | apply below_drew1 | refine below_set ?_ GE148.out) | exact HB.out)) hb)
  (try clear hb)
  (try clear hb2)
  (try clear hk)
  (try clear hi)
  refine hK.out _ _ (ka1ab.b2e aa.out) (fun hHeld => ?_)
  clear hK K
  refine norm_ (a' := ?_) ?_ ?_
  rotate_left
  ·show Act.put _ (some 6) _ = _
   simp only [Act.put, List.setIfInBounds_toArray, List.set_cons_zero, List.set_cons_succ, i64_w]
   rfl
  refine pure_ (i := 2) (N := some 7) (v := ?_) (a' := ?_) #[true, true, true, false, false, false, false, false, false, false, false, false, false] rfl rfl (any_of HT_.out (by kernel_rfl)) (fun _ _ _ h => h) (Or.inl ⟨by rfl, ?_⟩) ?_ ?_
  rotate_left
  ·intro w'
   go_simp
   with_reducible rfl
  rotate_left
  ·simp only [Act.put, List.setIfInBounds_toArray, List.set_cons_zero, List.set_cons_succ, i64_w]
   rfl
  refine pure_ (i := 3) (N := some 8) (v := undef) (a' := ?_) #[true, true, true, true, false, false, false, false, false, false, false, false, false] rfl rfl (any_of HT_.out (by kernel_rfl)) (fun _ _ _ h => h) (Or.inr ⟨by rfl, rfl⟩) ?_ ?_
  rotate_left
  ·simp only [Act.put, List.setIfInBounds_toArray, List.set_cons_zero, List.set_cons_succ, i64_w]
   rfl
  refine pure_ (i := 4) (N := some 9) (v := undef) (a' := ?_) #[true, true, true, true, true, false, false, false, false, false, false, false, false] rfl rfl (any_of HT_.out (by kernel_rfl)) (fun _ _ _ h => h) (Or.inr ⟨by rfl, rfl⟩) ?_ ?_
  rotate_left
  ·simp only [Act.put, List.setIfInBounds_toArray, List.set_cons_zero, List.set_cons_succ, i64_w]
   rfl
  refine pure_ (i := 5) (N := some 10) (v := undef) (a' := ?_) #[true, true, true, true, true, true, false, false, false, false, false, false, false] rfl rfl (any_of HT_.out (by kernel_rfl)) (fun _ _ _ h => h) (Or.inr ⟨by rfl, rfl⟩) ?_ ?_
  rotate_left
  ·simp only [Act.put, List.setIfInBounds_toArray, List.set_cons_zero, List.set_cons_succ, i64_w]
   rfl
  refine pure_ (i := 6) (N := some 11) (v := undef) (a' := ?_) #[true, true, true, true, true, true, true, false, false, false, false, false, false] rfl rfl (any_of HT_.out (by kernel_rfl)) (fun _ _ _ h => h) (Or.inr ⟨by rfl, rfl⟩) ?_ ?_
  rotate_left
  ·simp only [Act.put, List.setIfInBounds_toArray, List.set_cons_zero, List.set_cons_succ, i64_w]
   rfl
  refine pure_ (i := 7) (N := some 12) (v := undef) (a' := ?_) #[true, true, true, true, true, true, true, true, false, false, false, false, false] rfl rfl (any_of HT_.out (by kernel_rfl)) (fun _ _ _ h => h) (Or.inr ⟨by rfl, rfl⟩) ?_ ?_
  rotate_left
  ·simp only [Act.put, List.setIfInBounds_toArray, List.set_cons_zero, List.set_cons_succ, i64_w]
   rfl
  refine pure_ (i := 8) (N := some 13) (v := undef) (a' := ?_) #[true, true, true, true, true, true, true, true, true, false, false, false, false] rfl rfl (any_of HT_.out (by kernel_rfl)) (fun _ _ _ h => h) (Or.inr ⟨by rfl, rfl⟩) ?_ ?_
  rotate_left
  ·simp only [Act.put, List.setIfInBounds_toArray, List.set_cons_zero, List.set_cons_succ, i64_w]
   rfl
  refine pure_ (i := 9) (N := some 14) (v := undef) (a' := ?_) #[true, true, true, true, true, true, true, true, true, true, false, false, false] rfl rfl (any_of HT_.out (by kernel_rfl)) (fun _ _ _ h => h) (Or.inr ⟨by rfl, rfl⟩) ?_ ?_
  rotate_left
  ·simp only [Act.put, List.setIfInBounds_toArray, List.set_cons_zero, List.set_cons_succ, i64_w]
   rfl
  refine pure_ (i := 10) (N := some 15) (v := undef) (a' := ?_) #[true, true, true, true, true, true, true, true, true, true, true, false, false] rfl rfl (any_of HT_.out (by kernel_rfl)) (fun _ _ _ h => h) (Or.inr ⟨by rfl, rfl⟩) ?_ ?_
  rotate_left
  ·simp only [Act.put, List.setIfInBounds_toArray, List.set_cons_zero, List.set_cons_succ, i64_w]
   rfl
  refine pure_ (i := 11) (N := some 16) (v := ?_) (a' := ?_) #[true, true, true, true, true, true, true, true, true, true, true, true, false] rfl rfl (any_of HT_.out (by kernel_rfl)) (fun _ _ _ h => h) (Or.inl ⟨by rfl, ?_⟩) ?_ ?_
  rotate_left
  ·intro w'
   go_simp
   with_reducible rfl
  rotate_left
  ·simp only [Act.put, List.setIfInBounds_toArray, List.set_cons_zero, List.set_cons_succ, i64_w]
   rfl
  refine pure_ (i := 12) (N := some 4) (v := ?_) (a' := ?_) #[true, true, true, true, true, true, true, true, true, true, true, true, true] rfl rfl (any_of HT_.out (by kernel_rfl)) (fun _ _ _ h => h) (Or.inl ⟨by rfl, ?_⟩) ?_ ?_
  rotate_left
  ·intro w'
   go_simp
   with_reducible rfl
  rotate_left
  ·simp only [Act.put, List.setIfInBounds_toArray, List.set_cons_zero, List.set_cons_succ, i64_w]
   rfl
  refine done_ (done_of HT_.out (by kernel_rfl)) ?_
  try go_wp2
  go_ret
  exact ⟨by first | rfl | (simp [errW_none, errW_some] <;> rfl) | (simp [*, errW_none, errW_some] <;> rfl), by repeat (first | (with_reducible first | exact HB.out | apply below_alloc | apply pw_below_drewN | apply below_drew1 | refine below_set ?_ GE148.out) | exact HB.out)⟩

/-! ### addr_Contains: function 47 -/
def addr_Contains.f (a0_0 : Int) (a0_1 : Int) (a1_0 : Int) (a1_1 : Int) : Option (Bool) := (addr_May.f a1_0 a1_1).bind fun t153 => (if t153 = true then (if a0_1 ≤ a1_1 then ((addr_Has.f a0_0 a0_1 a1_0).bind fun t154 => (some t154)) else (some false)) else (some false))
set_option maxHeartbeats 8000000 in
set_option maxRecDepth 100000 in
theorem addr_Contains.calls (ai : Int) (ag : Int) (ah : Int) (af : Int) (r : Bool) (w : World) (h : addr_Contains.f ai ag ah af = some r) :
  Calls Try.prog 47 #[.agg #[.int .u32 ai, .int .i64 ag], .agg #[.int .u32 ah, .int .i64 af]] w fun e w' => e = .returned (.bool r) ∧ Below w.heap.size w w' := by
 have hu24 := Try.underlying24
 have HB := Aside0.mk (Below.refl w.heap.size w)
 have H : ((addr_May.f ah af).bind fun t153 => (if t153 = true then (if ag ≤ af then ((addr_Has.f ai ag ah).bind fun t154 => (some t154)) else (some false)) else (some false))) = some r := h
 clear h
 replace H := Option.bind_eq_some_iff.mp H
 obtain ⟨t153, A30, H⟩ := H
 (try dsimp only at H)
 have A3 := Aside0.mk A30
 clear A30
 by_cases c4 : t153 = true
 ·subst c4
  have H1 : (if ag ≤ af then ((addr_Has.f ai ag ah).bind fun t154 => (some t154)) else (some false)) = some r := by rw [if_pos rfl] at H; exact H
  clear H
  have H := H1
  clear H1
  by_cases c5 : ag ≤ af
  ·rw [if_pos c5] at H
   have c5b0 : decide (ag ≤ af) = true := decide_eq_true c5
   clear c5
   replace H := Option.bind_eq_some_iff.mp H
   obtain ⟨t154, A60, H⟩ := H
   replace H : (some t154) = some r := H
   have A6 := Aside0.mk A60
   clear A60
   obtain rfl := Option.some.inj H
   go_enter Try.func47, Try.ntmps47
   go_wp2_with (first | ((with_reducible refine gate_dst (N := 2) rfl ?_); refine box_event ?hg (N := 2) ?hd (cs := #[.int .u32 ai, .int .i64 ag]) (t := 24) ?hr ?_; (case hd => rfl); (case hg => rfl); (case hr => first | (go_simp; done) | (go_simp; rfl)); intro ab hg w7 hbox hb; have n0_ := Aside0.mk (below_step (by repeat (first | (with_reducible first | exact HB.out | apply below_alloc | apply pw_below_drewN | apply below_drew1) | exact HB.out)) hb); have n1_ := Aside0.mk (hbox); have n2_ := Aside0.mk ((by rw [hg]; exact (below_size (by repeat (first | (with_reducible first | exact HB.out | apply below_alloc | apply pw_below_drewN | apply below_drew1) | exact HB.out))) : w.heap.size ≤ ab)); have n3_ := Aside0.mk ((by rw [hg]; exact (below_size (by repeat (first | (with_reducible first | exact HB.out | apply below_alloc | apply pw_below_drewN | apply below_drew1) | exact HB.out))) : w.heap.size ≤ ab)); clear HB; have HB := n0_; have aa := n1_; have GW151 := n2_; have ae := n3_; clear n0_ n1_ n2_ n3_; clear hb hbox hg) | ((with_reducible refine gate_dst (N := 3) rfl ?_); refine box_event ?hg (N := 3) ?hd (cs := #[.int .u32 ah, .int .i64 af]) (t := 24) ?hr ?_; (case hd => rfl); (case hg => rfl); (case hr => first | (go_simp; done) | (go_simp; rfl)); intro ad hg w8 hbox hb; have n0_ := Aside0.mk (blk_below (g := ab) (by (with_reducible repeat (first | refine blk_drewN ?_ _ | refine blk_drew ?_ | refine blk_alloc ?_ _)); exact aa.out) hb); have n1_ := Aside0.mk (below_step (by repeat (first | (with_reducible first | exact HB.out | apply below_alloc | apply pw_below_drewN | apply below_drew1 | refine below_set ?_ ae.out) | exact HB.out)) hb); have n2_ := Aside0.mk (hbox); have n3_ := Aside0.mk ((by rw [hg]; exact (below_size (by repeat (first | (with_reducible first | exact HB.out | apply below_alloc | apply pw_below_drewN | apply below_drew1 | refine below_set ?_ ae.out) | exact HB.out))) : w.heap.size ≤ ad)); have n4_ := Aside0.mk ((by rw [hg]; exact (below_size (by repeat (first | (with_reducible first | exact HB.out | apply below_alloc | apply pw_below_drewN | apply below_drew1 | refine below_set ?_ ae.out) | exact HB.out))) : w.heap.size ≤ ad)); have n5_ := Aside0.mk ((by rw [hg]; exact Nat.ne_of_lt (blk_lt (g := ab) (o := .cells #[.int .u32 ai, .int .i64 ag] 24 (0, 0)) (by (with_reducible repeat (first | refine blk_drewN ?_ _ | refine blk_drew ?_ | refine blk_alloc ?_ _)); exact aa.out)) : ab ≠ ad)); have n6_ := Aside0.mk ((by rw [hg]; exact Nat.ne_of_gt (blk_lt (g := ab) (o := .cells #[.int .u32 ai, .int .i64 ag] 24 (0, 0)) (by (with_reducible repeat (first | refine blk_drewN ?_ _ | refine blk_drew ?_ | refine blk_alloc ?_ _)); exact aa.out)) : ad ≠ ab)); clear aa; clear HB; have aa := n0_; have HB := n1_; have ac := n2_; have GW152 := n3_; have aj := n4_; have NB151_152 := n5_; have NB152_151 := n6_; clear n0_ n1_ n2_ n3_ n4_ n5_ n6_; clear hb hbox hg; have hnb9 := NB152_151.out; have hnc9 := NB151_152.out; have hcz10_0 : w8.cell? ⟨ad, 0, none⟩ = some (.int .u32 ah) := (blk_cell ac.out 0).trans rfl; have hcz10_1 : w8.cell? ⟨ad, 1, none⟩ = some (.int .i64 af) := (blk_cell ac.out 1).trans rfl; have hfz10_0 := blk_frozen ac.out 0; have hfz10_1 := blk_frozen ac.out 1) | ((with_reducible refine gate_callee (f := 32) rfl ?_); refine goesL_ (some 6) rfl rfl Try.func32 (by kernel_rfl) rfl #[.agg #[.int .u32 ah, .int .i64 af]] rfl (by (try simp only [List.map_toArray, List.map_cons, List.map_nil]); first | done | rfl) ?_; (with_reducible refine (addr_May.calls ah af true _ A3.out).mono ?_); rintro e w11 ⟨rfl, hb⟩; refine ⟨_, rfl, ?_⟩; replace aa := Aside0.mk (blk_below (g := ab) (by (with_reducible repeat (first | refine blk_drewN ?_ _ | refine blk_drew ?_ | refine blk_alloc ?_ _)); exact aa.out) hb); replace ac := Aside0.mk (blk_below (g := ad) (by (with_reducible repeat (first | refine blk_drewN ?_ _ | refine blk_drew ?_ | refine blk_alloc ?_ _)); exact ac.out) hb); replace HB := Aside0.mk (below_step (by repeat (first | (with_reducible first | exact HB.out | apply below_alloc | apply pw_below_drewN | apply below_drew1 | refine below_set ?_ ae.out | refine below_set ?_ aj.out) | exact HB.out)) hb); (try clear hb); (try clear hb2); (try clear hk); (try clear hi); have hcz12_0 : w11.cell? ⟨ab, 0, none⟩ = some (.int .u32 ai) := (blk_cell aa.out 0).trans rfl; have hcz12_1 : w11.cell? ⟨ab, 1, none⟩ = some (.int .i64 ag) := (blk_cell aa.out 1).trans rfl; have hfz12_0 := blk_frozen aa.out 0; have hfz12_1 := blk_frozen aa.out 1; have hcz13_0 : w11.cell? ⟨ad, 0, none⟩ = some (.int .u32 ah) := (blk_cell ac.out 0).trans rfl; have hcz13_1 : w11.cell? ⟨ad, 1, none⟩ = some (.int .i64 af) := (blk_cell ac.out 1).trans rfl; have hfz13_0 := blk_frozen ac.out 0; have hfz13_1 := blk_frozen ac.out 1) | (go_at_call 59; (with_reducible refine (addr_Has.calls ai ag ah t154 _ A6.out).mono ?_); rintro e w14 ⟨rfl, hb⟩; replace aa := Aside0.mk (blk_below (g := ab) (by (with_reducible repeat (first | refine blk_drewN ?_ _ | refine blk_drew ?_ | refine blk_alloc ?_ _)); exact aa.out) hb); replace ac := Aside0.mk (blk_below (g := ad) (by (with_reducible repeat (first | refine blk_drewN ?_ _ | refine blk_drew ?_ | refine blk_alloc ?_ _)); exact ac.out) hb); replace HB := Aside0.mk (below_step (by repeat (first | (with_reducible first | exact HB.out | apply below_alloc | apply pw_below_drewN | apply below_drew1 | refine below_set ?_ ae.out | refine below_set ?_ aj.out) | exact HB.out)) hb); (try clear hb); (try clear hb2); (try clear hk); (try clear hi)))
   go_ret
   exact ⟨by first | rfl | (simp [errW_none, errW_some] <;> rfl) | (simp [*, errW_none, errW_some] <;> rfl), by repeat (first | (with_reducible first | exact HB.out | apply below_alloc | apply pw_below_drewN | apply below_drew1 | refine below_set ?_ ae.out | refine below_set ?_ aj.out) | exact HB.out)⟩
  ·rw [if_neg c5] at H
   have c5b0 : decide (ag ≤ af) = false := decide_eq_false c5
   clear c5
   obtain rfl := Option.some.inj H
   go_enter Try.func47, Try.ntmps47
   go_wp2_with (first | ((with_reducible refine gate_dst (N := 2) rfl ?_); refine box_event ?hg (N := 2) ?hd (cs := #[.int .u32 ai, .int .i64 ag]) (t := 24) ?hr ?_; (case hd => rfl); (case hg => rfl); (case hr => first | (go_simp; done) | (go_simp; rfl)); intro ab hg w15 hbox hb; have n0_ := Aside0.mk (below_step (by repeat (first | (with_reducible first | exact HB.out | apply below_alloc | apply pw_below_drewN | apply below_drew1) | exact HB.out)) hb); have n1_ := Aside0.mk (hbox); have n2_ := Aside0.mk ((by rw [hg]; exact (below_size (by repeat (first | (with_reducible first | exact HB.out | apply below_alloc | apply pw_below_drewN | apply below_drew1) | exact HB.out))) : w.heap.size ≤ ab)); have n3_ := Aside0.mk ((by rw [hg]; exact (below_size (by repeat (first | (with_reducible first | exact HB.out | apply below_alloc | apply pw_below_drewN | apply below_drew1) | exact HB.out))) : w.heap.size ≤ ab)); clear HB; have HB := n0_; have aa := n1_; have GW151 := n2_; have ae := n3_; clear n0_ n1_ n2_ n3_; clear hb hbox hg) | ((with_reducible refine gate_dst (N := 3) rfl ?_); refine box_event ?hg (N := 3) ?hd (cs := #[.int .u32 ah, .int .i64 af]) (t := 24) ?hr ?_; (case hd => rfl); (case hg => rfl); (case hr => first | (go_simp; done) | (go_simp; rfl)); intro ad hg w16 hbox hb; have n0_ := Aside0.mk (blk_below (g := ab) (by (with_reducible repeat (first | refine blk_drewN ?_ _ | refine blk_drew ?_ | refine blk_alloc ?_ _)); exact aa.out) hb); have n1_ := Aside0.mk (below_step (by repeat (first | (with_reducible first | exact HB.out | apply below_alloc | apply pw_below_drewN | apply below_drew1 | refine below_set ?_ ae.out) | exact HB.out)) hb); have n2_ := Aside0.mk (hbox); have n3_ := Aside0.mk ((by rw [hg]; exact (below_size (by repeat (first | (with_reducible first | exact HB.out | apply below_alloc | apply pw_below_drewN | apply below_drew1 | refine below_set ?_ ae.out) | exact HB.out))) : w.heap.size ≤ ad)); have n4_ := Aside0.mk ((by rw [hg]; exact (below_size (by repeat (first | (with_reducible first | exact HB.out | apply below_alloc | apply pw_below_drewN | apply below_drew1 | refine below_set ?_ ae.out) | exact HB.out))) : w.heap.size ≤ ad)); have n5_ := Aside0.mk ((by rw [hg]; exact Nat.ne_of_lt (blk_lt (g := ab) (o := .cells #[.int .u32 ai, .int .i64 ag] 24 (0, 0)) (by (with_reducible repeat (first | refine blk_drewN ?_ _ | refine blk_drew ?_ | refine blk_alloc ?_ _)); exact aa.out)) : ab ≠ ad)); have n6_ := Aside0.mk ((by rw [hg]; exact Nat.ne_of_gt (blk_lt (g := ab) (o := .cells #[.int .u32 ai, .int .i64 ag] 24 (0, 0)) (by (with_reducible repeat (first | refine blk_drewN ?_ _ | refine blk_drew ?_ | refine blk_alloc ?_ _)); exact aa.out)) : ad ≠ ab)); clear aa; clear HB; have aa := n0_; have HB := n1_; have ac := n2_; have GW152 := n3_; have aj := n4_; have NB151_152 := n5_; have NB152_151 := n6_; clear n0_ n1_ n2_ n3_ n4_ n5_ n6_; clear hb hbox hg; have hnb17 := NB152_151.out; have hnc17 := NB151_152.out; have hcz18_0 : w16.cell? ⟨ad, 0, none⟩ = some (.int .u32 ah) := (blk_cell ac.out 0).trans rfl; have hcz18_1 : w16.cell? ⟨ad, 1, none⟩ = some (.int .i64 af) := (blk_cell ac.out 1).trans rfl; have hfz18_0 := blk_frozen ac.out 0; have hfz18_1 := blk_frozen ac.out 1) | ((with_reducible refine gate_callee (f := 32) rfl ?_); refine goesL_ (some 6) rfl rfl Try.func32 (by kernel_rfl) rfl #[.agg #[.int .u32 ah, .int .i64 af]] rfl (by (try simp only [List.map_toArray, List.map_cons, List.map_nil]); first | done | rfl) ?_; (with_reducible refine (addr_May.calls ah af true _ A3.out).mono ?_); rintro e w19 ⟨rfl, hb⟩; refine ⟨_, rfl, ?_⟩; replace aa := Aside0.mk (blk_below (g := ab) (by (with_reducible repeat (first | refine blk_drewN ?_ _ | refine blk_drew ?_ | refine blk_alloc ?_ _)); exact aa.out) hb); replace ac := Aside0.mk (blk_below (g := ad) (by (with_reducible repeat (first | refine blk_drewN ?_ _ | refine blk_drew ?_ | refine blk_alloc ?_ _)); exact ac.out) hb); replace HB := Aside0.mk (below_step (by repeat (first | (with_reducible first | exact HB.out | apply below_alloc | apply pw_below_drewN | apply below_drew1 | refine below_set ?_ ae.out | refine below_set ?_ aj.out) | exact HB.out)) hb); (try clear hb); (try clear hb2); (try clear hk); (try clear hi); have hcz20_0 : w19.cell? ⟨ab, 0, none⟩ = some (.int .u32 ai) := (blk_cell aa.out 0).trans rfl; have hcz20_1 : w19.cell? ⟨ab, 1, none⟩ = some (.int .i64 ag) := (blk_cell aa.out 1).trans rfl; have hfz20_0 := blk_frozen aa.out 0; have hfz20_1 := blk_frozen aa.out 1; have hcz21_0 : w19.cell? ⟨ad, 0, none⟩ = some (.int .u32 ah) := (blk_cell ac.out 0).trans rfl; have hcz21_1 : w19.cell? ⟨ad, 1, none⟩ = some (.int .i64 af) := (blk_cell ac.out 1).trans rfl; have hfz21_0 := blk_frozen ac.out 0; have hfz21_1 := blk_frozen ac.out 1))
   go_ret
   exact ⟨by first | rfl | (simp [errW_none, errW_some] <;> rfl) | (simp [*, errW_none, errW_some] <;> rfl), by repeat (first | (with_reducible first | exact HB.out | apply below_alloc | apply pw_below_drewN | apply below_drew1 | refine below_set ?_ ae.out | refine below_set ?_ aj.out) | exact HB.out)⟩
 ·replace c4 := Bool.eq_false_iff.mpr c4
  subst c4
  have H1 : (some false) = some r := by rw [if_neg (show ¬ (false = true) by decide)] at H; exact H
  clear H
  have H := H1
  clear H1
  obtain rfl := Option.some.inj H
  go_enter Try.func47, Try.ntmps47
  go_wp2_with (first | ((with_reducible refine gate_dst (N := 2) rfl ?_); refine box_event ?hg (N := 2) ?hd (cs := #[.int .u32 ai, .int .i64 ag]) (t := 24) ?hr ?_; (case hd => rfl); (case hg => rfl); (case hr => first | (go_simp; done) | (go_simp; rfl)); intro ab hg w22 hbox hb; have n0_ := Aside0.mk (below_step (by repeat (first | (with_reducible first | exact HB.out | apply below_alloc | apply pw_below_drewN | apply below_drew1) | exact HB.out)) hb); have n1_ := Aside0.mk (hbox); have n2_ := Aside0.mk ((by rw [hg]; exact (below_size (by repeat (first | (with_reducible first | exact HB.out | apply below_alloc | apply pw_below_drewN | apply below_drew1) | exact HB.out))) : w.heap.size ≤ ab)); have n3_ := Aside0.mk ((by rw [hg]; exact (below_size (by repeat (first | (with_reducible first | exact HB.out | apply below_alloc | apply pw_below_drewN | apply below_drew1) | exact HB.out))) : w.heap.size ≤ ab)); clear HB; have HB := n0_; have aa := n1_; have GW151 := n2_; have ae := n3_; clear n0_ n1_ n2_ n3_; clear hb hbox hg) | ((with_reducible refine gate_dst (N := 3) rfl ?_); refine box_event ?hg (N := 3) ?hd (cs := #[.int .u32 ah, .int .i64 af]) (t := 24) ?hr ?_; (case hd => rfl); (case hg => rfl); (case hr => first | (go_simp; done) | (go_simp; rfl)); intro ad hg w23 hbox hb; have n0_ := Aside0.mk (blk_below (g := ab) (by (with_reducible repeat (first | refine blk_drewN ?_ _ | refine blk_drew ?_ | refine blk_alloc ?_ _)); exact aa.out) hb); have n1_ := Aside0.mk (below_step (by repeat (first | (with_reducible first | exact HB.out | apply below_alloc | apply pw_below_drewN | apply below_drew1 | refine below_set ?_ ae.out) | exact HB.out)) hb); have n2_ := Aside0.mk (hbox); have n3_ := Aside0.mk ((by rw [hg]; exact (below_size (by repeat (first | (with_reducible first | exact HB.out | apply below_alloc | apply pw_below_drewN | apply below_drew1 | refine below_set ?_ ae.out) | exact HB.out))) : w.heap.size ≤ ad)); have n4_ := Aside0.mk ((by rw [hg]; exact (below_size (by repeat (first | (with_reducible first | exact HB.out | apply below_alloc | apply pw_below_drewN | apply below_drew1 | refine below_set ?_ ae.out) | exact HB.out))) : w.heap.size ≤ ad)); have n5_ := Aside0.mk ((by rw [hg]; exact Nat.ne_of_lt (blk_lt (g := ab) (o := .cells #[.int .u32 ai, .int .i64 ag] 24 (0, 0)) (by (with_reducible repeat (first | refine blk_drewN ?_ _ | refine blk_drew ?_ | refine blk_alloc ?_ _)); exact aa.out)) : ab ≠ ad)); have n6_ := Aside0.mk ((by rw [hg]; exact Nat.ne_of_gt (blk_lt (g := ab) (o := .cells #[.int .u32 ai, .int .i64 ag] 24 (0, 0)) (by (with_reducible repeat (first | refine blk_drewN ?_ _ | refine blk_drew ?_ | refine blk_alloc ?_ _)); exact aa.out)) : ad ≠ ab)); clear aa; clear HB; have aa := n0_; have HB := n1_; have ac := n2_; have GW152 := n3_; have aj := n4_; have NB151_152 := n5_; have NB152_151 := n6_; clear n0_ n1_ n2_ n3_ n4_ n5_ n6_; clear hb hbox hg; have hnb24 := NB152_151.out; have hnc24 := NB151_152.out; have hcz25_0 : w23.cell? ⟨ad, 0, none⟩ = some (.int .u32 ah) := (blk_cell ac.out 0).trans rfl; have hcz25_1 : w23.cell? ⟨ad, 1, none⟩ = some (.int .i64 af) := (blk_cell ac.out 1).trans rfl; have hfz25_0 := blk_frozen ac.out 0; have hfz25_1 := blk_frozen ac.out 1) | ((with_reducible refine gate_callee (f := 32) rfl ?_); refine goesL_ (some 6) rfl rfl Try.func32 (by kernel_rfl) rfl #[.agg #[.int .u32 ah, .int .i64 af]] rfl (by (try simp only [List.map_toArray, List.map_cons, List.map_nil]); first | done | rfl) ?_; (with_reducible refine (addr_May.calls ah af false _ A3.out).mono ?_); rintro e w26 ⟨rfl, hb⟩; refine ⟨_, rfl, ?_⟩; replace aa := Aside0.mk (blk_below (g := ab) (by (with_reducible repeat (first | refine blk_drewN ?_ _ | refine blk_drew ?_ | refine blk_alloc ?_ _)); exact aa.out) hb); replace ac := Aside0.mk (blk_below (g := ad) (by (with_reducible repeat (first | refine blk_drewN ?_ _ | refine blk_drew ?_ | refine blk_alloc ?_ _)); exact ac.out) hb); replace HB := Aside0.mk (below_step (by repeat (first | (with_reducible first | exact HB.out | apply below_alloc | apply pw_below_drewN | apply below_drew1 | refine below_set ?_ ae.out | refine below_set ?_ aj.out) | exact HB.out)) hb); (try clear hb); (try clear hb2); (try clear hk); (try clear hi)))
  go_ret
  exact ⟨by first | rfl | (simp [errW_none, errW_some] <;> rfl) | (simp [*, errW_none, errW_some] <;> rfl), by repeat (first | (with_reducible first | exact HB.out | apply below_alloc | apply pw_below_drewN | apply below_drew1 | refine below_set ?_ ae.out | refine below_set ?_ aj.out) | exact HB.out)⟩

/-! ### plist_met: function 34 -/
def plist_met.f (a0_0 : Int) (a0_1 : Int) (a0_2 : Int) (a0_3 : Int) (a0_4 : Bool) (a1_0 : Int) (a1_1 : Int) : Option (Bool) := (addr_Contains.f a0_0 a0_1 a1_0 a1_1).bind fun t157 => (if t157 = true then (if a1_1 ≥ a0_2 then (some (decide (a1_1 ≤ a0_3))) else (some false)) else (some false))
set_option maxHeartbeats 8000000 in
set_option maxRecDepth 100000 in
theorem plist_met.calls (ag : Int) (ah : Int) (ai : Int) (aj : Int) (al : Bool) (ak : Int) (af : Int) (r : Bool) (w : World) (h : plist_met.f ag ah ai aj al ak af = some r) :
  Calls Try.prog 34 #[.agg #[.int .u32 ag, .int .i64 ah, .int .i64 ai, .int .i64 aj, .bool al], .agg #[.int .u32 ak, .int .i64 af]] w fun e w' => e = .returned (.bool r) ∧ Below w.heap.size w w' := by
 have hu26 := Try.underlying26
 have hu24 := Try.underlying24
 have HB := Aside0.mk (Below.refl w.heap.size w)
 have H : ((addr_Contains.f ag ah ak af).bind fun t157 => (if t157 = true then (if af ≥ ai then (some (decide (af ≤ aj))) else (some false)) else (some false))) = some r := h
 clear h
 replace H := Option.bind_eq_some_iff.mp H
 obtain ⟨t157, A30, H⟩ := H
 (try dsimp only at H)
 have A3 := Aside0.mk A30
 clear A30
 by_cases c4 : t157 = true
 ·subst c4
  have H1 : (if af ≥ ai then (some (decide (af ≤ aj))) else (some false)) = some r := by rw [if_pos rfl] at H; exact H
  clear H
  have H := H1
  clear H1
  by_cases c5 : af ≥ ai
  ·rw [if_pos c5] at H
   have c5b0 : decide (ai ≤ af) = true := decide_eq_true c5
   clear c5
   obtain rfl := Option.some.inj H
   go_enter Try.func34, Try.ntmps34
   go_wp2_with (first | ((with_reducible refine gate_dst (N := 2) rfl ?_); refine box_event ?hg (N := 2) ?hd (cs := #[.int .u32 ag, .int .i64 ah, .int .i64 ai, .int .i64 aj, .bool al]) (t := 26) ?hr ?_; (case hd => rfl); (case hg => rfl); (case hr => first | (go_simp; done) | (go_simp; rfl)); intro ab hg w6 hbox hb; have n0_ := Aside0.mk (below_step (by repeat (first | (with_reducible first | exact HB.out | apply below_alloc | apply pw_below_drewN | apply below_drew1) | exact HB.out)) hb); have n1_ := Aside0.mk (hbox); have n2_ := Aside0.mk ((by rw [hg]; exact (below_size (by repeat (first | (with_reducible first | exact HB.out | apply below_alloc | apply pw_below_drewN | apply below_drew1) | exact HB.out))) : w.heap.size ≤ ab)); have n3_ := Aside0.mk ((by rw [hg]; exact (below_size (by repeat (first | (with_reducible first | exact HB.out | apply below_alloc | apply pw_below_drewN | apply below_drew1) | exact HB.out))) : w.heap.size ≤ ab)); clear HB; have HB := n0_; have aa := n1_; have GW155 := n2_; have ae := n3_; clear n0_ n1_ n2_ n3_; clear hb hbox hg) | ((with_reducible refine gate_dst (N := 3) rfl ?_); refine box_event ?hg (N := 3) ?hd (cs := #[.int .u32 ak, .int .i64 af]) (t := 24) ?hr ?_; (case hd => rfl); (case hg => rfl); (case hr => first | (go_simp; done) | (go_simp; rfl)); intro ad hg w7 hbox hb; have n0_ := Aside0.mk (blk_below (g := ab) (by (with_reducible repeat (first | refine blk_drewN ?_ _ | refine blk_drew ?_ | refine blk_alloc ?_ _)); exact aa.out) hb); have n1_ := Aside0.mk (below_step (by repeat (first | (with_reducible first | exact HB.out | apply below_alloc | apply pw_below_drewN | apply below_drew1 | refine below_set ?_ ae.out) | exact HB.out)) hb); have n2_ := Aside0.mk (hbox); have n3_ := Aside0.mk ((by rw [hg]; exact (below_size (by repeat (first | (with_reducible first | exact HB.out | apply below_alloc | apply pw_below_drewN | apply below_drew1 | refine below_set ?_ ae.out) | exact HB.out))) : w.heap.size ≤ ad)); have n4_ := Aside0.mk ((by rw [hg]; exact (below_size (by repeat (first | (with_reducible first | exact HB.out | apply below_alloc | apply pw_below_drewN | apply below_drew1 | refine below_set ?_ ae.out) | exact HB.out))) : w.heap.size ≤ ad)); have n5_ := Aside0.mk ((by rw [hg]; exact Nat.ne_of_lt (blk_lt (g := ab) (o := .cells #[.int .u32 ag, .int .i64 ah, .int .i64 ai, .int .i64 aj, .bool al] 26 (0, 0)) (by (with_reducible repeat (first | refine blk_drewN ?_ _ | refine blk_drew ?_ | refine blk_alloc ?_ _)); exact aa.out)) : ab ≠ ad)); have n6_ := Aside0.mk ((by rw [hg]; exact Nat.ne_of_gt (blk_lt (g := ab) (o := .cells #[.int .u32 ag, .int .i64 ah, .int .i64 ai, .int .i64 aj, .bool al] 26 (0, 0)) (by (with_reducible repeat (first | refine blk_drewN ?_ _ | refine blk_drew ?_ | refine blk_alloc ?_ _)); exact aa.out)) : ad ≠ ab)); clear aa; clear HB; have aa := n0_; have HB := n1_; have ac := n2_; have GW156 := n3_; have am := n4_; have NB155_156 := n5_; have NB156_155 := n6_; clear n0_ n1_ n2_ n3_ n4_ n5_ n6_; clear hb hbox hg; have hnb8 := NB155_156.out; have hnc8 := NB156_155.out; have hcz9_0 : w7.cell? ⟨ab, 0, none⟩ = some (.int .u32 ag) := (blk_cell aa.out 0).trans rfl; have hcz9_1 : w7.cell? ⟨ab, 1, none⟩ = some (.int .i64 ah) := (blk_cell aa.out 1).trans rfl; have hcz9_2 : w7.cell? ⟨ab, 2, none⟩ = some (.int .i64 ai) := (blk_cell aa.out 2).trans rfl; have hcz9_3 : w7.cell? ⟨ab, 3, none⟩ = some (.int .i64 aj) := (blk_cell aa.out 3).trans rfl; have hcz9_4 : w7.cell? ⟨ab, 4, none⟩ = some (.bool al) := (blk_cell aa.out 4).trans rfl; have hfz9_0 := blk_frozen aa.out 0; have hfz9_1 := blk_frozen aa.out 1; have hfz9_2 := blk_frozen aa.out 2; have hfz9_3 := blk_frozen aa.out 3; have hfz9_4 := blk_frozen aa.out 4; have hcz10_0 : w7.cell? ⟨ad, 0, none⟩ = some (.int .u32 ak) := (blk_cell ac.out 0).trans rfl; have hcz10_1 : w7.cell? ⟨ad, 1, none⟩ = some (.int .i64 af) := (blk_cell ac.out 1).trans rfl; have hfz10_0 := blk_frozen ac.out 0; have hfz10_1 := blk_frozen ac.out 1) | ((with_reducible refine gate_callee (f := 47) rfl ?_); refine goesL_ (some 8) rfl rfl Try.func47 (by kernel_rfl) rfl #[.agg #[.int .u32 ag, .int .i64 ah], .agg #[.int .u32 ak, .int .i64 af]] rfl (by (try simp only [List.map_toArray, List.map_cons, List.map_nil]); first | done | rfl) ?_; (with_reducible refine (addr_Contains.calls ag ah ak af true _ A3.out).mono ?_); rintro e w11 ⟨rfl, hb⟩; refine ⟨_, rfl, ?_⟩; replace aa := Aside0.mk (blk_below (g := ab) (by (with_reducible repeat (first | refine blk_drewN ?_ _ | refine blk_drew ?_ | refine blk_alloc ?_ _)); exact aa.out) hb); replace ac := Aside0.mk (blk_below (g := ad) (by (with_reducible repeat (first | refine blk_drewN ?_ _ | refine blk_drew ?_ | refine blk_alloc ?_ _)); exact ac.out) hb); replace HB := Aside0.mk (below_step (by repeat (first | (with_reducible first | exact HB.out | apply below_alloc | apply pw_below_drewN | apply below_drew1 | refine below_set ?_ ae.out | refine below_set ?_ am.out) | exact HB.out)) hb); (try clear hb); (try clear hb2); (try clear hk); (try clear hi); have hcz12_0 : w11.cell? ⟨ad, 0, none⟩ = some (.int .u32 ak) := (blk_cell ac.out 0).trans rfl; have hcz12_1 : w11.cell? ⟨ad, 1, none⟩ = some (.int .i64 af) := (blk_cell ac.out 1).trans rfl; have hfz12_0 := blk_frozen ac.out 0; have hfz12_1 := blk_frozen ac.out 1; have hcz13_0 : w11.cell? ⟨ab, 0, none⟩ = some (.int .u32 ag) := (blk_cell aa.out 0).trans rfl; have hcz13_1 : w11.cell? ⟨ab, 1, none⟩ = some (.int .i64 ah) := (blk_cell aa.out 1).trans rfl; have hcz13_2 : w11.cell? ⟨ab, 2, none⟩ = some (.int .i64 ai) := (blk_cell aa.out 2).trans rfl; have hcz13_3 : w11.cell? ⟨ab, 3, none⟩ = some (.int .i64 aj) := (blk_cell aa.out 3).trans rfl; have hcz13_4 : w11.cell? ⟨ab, 4, none⟩ = some (.bool al) := (blk_cell aa.out 4).trans rfl; have hfz13_0 := blk_frozen aa.out 0; have hfz13_1 := blk_frozen aa.out 1; have hfz13_2 := blk_frozen aa.out 2; have hfz13_3 := blk_frozen aa.out 3; have hfz13_4 := blk_frozen aa.out 4))
   go_ret
   exact ⟨by first | rfl | (simp [errW_none, errW_some] <;> rfl) | (simp [*, errW_none, errW_some] <;> rfl), by repeat (first | (with_reducible first | exact HB.out | apply below_alloc | apply pw_below_drewN | apply below_drew1 | refine below_set ?_ ae.out | refine below_set ?_ am.out) | exact HB.out)⟩
  ·rw [if_neg c5] at H
   have c5b0 : decide (ai ≤ af) = false := decide_eq_false c5
   clear c5
   obtain rfl := Option.some.inj H
   go_enter Try.func34, Try.ntmps34
   go_wp2_with (first | ((with_reducible refine gate_dst (N := 2) rfl ?_); refine box_event ?hg (N := 2) ?hd (cs := #[.int .u32 ag, .int .i64 ah, .int .i64 ai, .int .i64 aj, .bool al]) (t := 26) ?hr ?_; (case hd => rfl); (case hg => rfl); (case hr => first | (go_simp; done) | (go_simp; rfl)); intro ab hg w14 hbox hb; have n0_ := Aside0.mk (below_step (by repeat (first | (with_reducible first | exact HB.out | apply below_alloc | apply pw_below_drewN | apply below_drew1) | exact HB.out)) hb); have n1_ := Aside0.mk (hbox); have n2_ := Aside0.mk ((by rw [hg]; exact (below_size (by repeat (first | (with_reducible first | exact HB.out | apply below_alloc | apply pw_below_drewN | apply below_drew1) | exact HB.out))) : w.heap.size ≤ ab)); have n3_ := Aside0.mk ((by rw [hg]; exact (below_size (by repeat (first | (with_reducible first | exact HB.out | apply below_alloc | apply pw_below_drewN | apply below_drew1) | exact HB.out))) : w.heap.size ≤ ab)); clear HB; have HB := n0_; have aa := n1_; have GW155 := n2_; have ae := n3_; clear n0_ n1_ n2_ n3_; clear hb hbox hg) | ((with_reducible refine gate_dst (N := 3) rfl ?_); refine box_event ?hg (N := 3) ?hd (cs := #[.int .u32 ak, .int .i64 af]) (t := 24) ?hr ?_; (case hd => rfl); (case hg => rfl); (case hr => first | (go_simp; done) | (go_simp; rfl)); intro ad hg w15 hbox hb; have n0_ := Aside0.mk (blk_below (g := ab) (by (with_reducible repeat (first | refine blk_drewN ?_ _ | refine blk_drew ?_ | refine blk_alloc ?_ _)); exact aa.out) hb); have n1_ := Aside0.mk (below_step (by repeat (first | (with_reducible first | exact HB.out | apply below_alloc | apply pw_below_drewN | apply below_drew1 | refine below_set ?_ ae.out) | exact HB.out)) hb); have n2_ := Aside0.mk (hbox); have n3_ := Aside0.mk ((by rw [hg]; exact (below_size (by repeat (first | (with_reducible first | exact HB.out | apply below_alloc | apply pw_below_drewN | apply below_drew1 | refine below_set ?_ ae.out) | exact HB.out))) : w.heap.size ≤ ad)); have n4_ := Aside0.mk ((by rw [hg]; exact (below_size (by repeat (first | (with_reducible first | exact HB.out | apply below_alloc | apply pw_below_drewN | apply below_drew1 | refine below_set ?_ ae.out) | exact HB.out))) : w.heap.size ≤ ad)); have n5_ := Aside0.mk ((by rw [hg]; exact Nat.ne_of_lt (blk_lt (g := ab) (o := .cells #[.int .u32 ag, .int .i64 ah, .int .i64 ai, .int .i64 aj, .bool al] 26 (0, 0)) (by (with_reducible repeat (first | refine blk_drewN ?_ _ | refine blk_drew ?_ | refine blk_alloc ?_ _)); exact aa.out)) : ab ≠ ad)); have n6_ := Aside0.mk ((by rw [hg]; exact Nat.ne_of_gt (blk_lt (g := ab) (o := .cells #[.int .u32 ag, .int .i64 ah, .int .i64 ai, .int .i64 aj, .bool al] 26 (0, 0)) (by (with_reducible repeat (first | refine blk_drewN ?_ _ | refine blk_drew ?_ | refine blk_alloc ?_ _)); exact aa.out)) : ad ≠ ab)); clear aa; clear HB; have aa := n0_; have HB := n1_; have ac := n2_; have GW156 := n3_; have am := n4_; have NB155_156 := n5_; have NB156_155 := n6_; clear n0_ n1_ n2_ n3_ n4_ n5_ n6_; clear hb hbox hg; have hnb16 := NB155_156.out; have hnc16 := NB156_155.out; have hcz17_0 : w15.cell? ⟨ab, 0, none⟩ = some (.int .u32 ag) := (blk_cell aa.out 0).trans rfl; have hcz17_1 : w15.cell? ⟨ab, 1, none⟩ = some (.int .i64 ah) := (blk_cell aa.out 1).trans rfl; have hcz17_2 : w15.cell? ⟨ab, 2, none⟩ = some (.int .i64 ai) := (blk_cell aa.out 2).trans rfl; have hcz17_3 : w15.cell? ⟨ab, 3, none⟩ = some (.int .i64 aj) := (blk_cell aa.out 3).trans rfl; have hcz17_4 : w15.cell? ⟨ab, 4, none⟩ = some (.bool al) := (blk_cell aa.out 4).trans rfl; have hfz17_0 := blk_frozen aa.out 0; have hfz17_1 := blk_frozen aa.out 1; have hfz17_2 := blk_frozen aa.out 2; have hfz17_3 := blk_frozen aa.out 3; have hfz17_4 := blk_frozen aa.out 4; have hcz18_0 : w15.cell? ⟨ad, 0, none⟩ = some (.int .u32 ak) := (blk_cell ac.out 0).trans rfl; have hcz18_1 : w15.cell? ⟨ad, 1, none⟩ = some (.int .i64 af) := (blk_cell ac.out 1).trans rfl; have hfz18_0 := blk_frozen ac.out 0; have hfz18_1 := blk_frozen ac.out 1) | ((with_reducible refine gate_callee (f := 47) rfl ?_); refine goesL_ (some 8) rfl rfl Try.func47 (by kernel_rfl) rfl #[.agg #[.int .u32 ag, .int .i64 ah], .agg #[.int .u32 ak, .int .i64 af]] rfl (by (try simp only [List.map_toArray, List.map_cons, List.map_nil]); first | done | rfl) ?_; (with_reducible refine (addr_Contains.calls ag ah ak af true _ A3.out).mono ?_); rintro e w19 ⟨rfl, hb⟩; refine ⟨_, rfl, ?_⟩; replace aa := Aside0.mk (blk_below (g := ab) (by (with_reducible repeat (first | refine blk_drewN ?_ _ | refine blk_drew ?_ | refine blk_alloc ?_ _)); exact aa.out) hb); replace ac := Aside0.mk (blk_below (g := ad) (by (with_reducible repeat (first | refine blk_drewN ?_ _ | refine blk_drew ?_ | refine blk_alloc ?_ _)); exact ac.out) hb); replace HB := Aside0.mk (below_step (by repeat (first | (with_reducible first | exact HB.out | apply below_alloc | apply pw_below_drewN | apply below_drew1 | refine below_set ?_ ae.out | refine below_set ?_ am.out) | exact HB.out)) hb); (try clear hb); (try clear hb2); (try clear hk); (try clear hi); have hcz20_0 : w19.cell? ⟨ad, 0, none⟩ = some (.int .u32 ak) := (blk_cell ac.out 0).trans rfl; have hcz20_1 : w19.cell? ⟨ad, 1, none⟩ = some (.int .i64 af) := (blk_cell ac.out 1).trans rfl; have hfz20_0 := blk_frozen ac.out 0; have hfz20_1 := blk_frozen ac.out 1; have hcz21_0 : w19.cell? ⟨ab, 0, none⟩ = some (.int .u32 ag) := (blk_cell aa.out 0).trans rfl; have hcz21_1 : w19.cell? ⟨ab, 1, none⟩ = some (.int .i64 ah) := (blk_cell aa.out 1).trans rfl; have hcz21_2 : w19.cell? ⟨ab, 2, none⟩ = some (.int .i64 ai) := (blk_cell aa.out 2).trans rfl; have hcz21_3 : w19.cell? ⟨ab, 3, none⟩ = some (.int .i64 aj) := (blk_cell aa.out 3).trans rfl; have hcz21_4 : w19.cell? ⟨ab, 4, none⟩ = some (.bool al) := (blk_cell aa.out 4).trans rfl; have hfz21_0 := blk_frozen aa.out 0; have hfz21_1 := blk_frozen aa.out 1; have hfz21_2 := blk_frozen aa.out 2; have hfz21_3 := blk_frozen aa.out 3; have hfz21_4 := blk_frozen aa.out 4))
   go_ret
   exact ⟨by first | rfl | (simp [errW_none, errW_some] <;> rfl) | (simp [*, errW_none, errW_some] <;> rfl), by repeat (first | (with_reducible first | exact HB.out | apply below_alloc | apply pw_below_drewN | apply below_drew1 | refine below_set ?_ ae.out | refine below_set ?_ am.out) | exact HB.out)⟩
 ·replace c4 := Bool.eq_false_iff.mpr c4
  subst c4
  have H1 : (some false) = some r := by rw [if_neg (show ¬ (false = true) by decide)] at H; exact H
  clear H
  have H := H1
  clear H1
  obtain rfl := Option.some.inj H
  go_enter Try.func34, Try.ntmps34
  go_wp2_with (first | ((with_reducible refine gate_dst (N := 2) rfl ?_); refine box_event ?hg (N := 2) ?hd (cs := #[.int .u32 ag, .int .i64 ah, .int .i64 ai, .int .i64 aj, .bool al]) (t := 26) ?hr ?_; (case hd => rfl); (case hg => rfl); (case hr => first | (go_simp; done) | (go_simp; rfl)); intro ab hg w22 hbox hb; have n0_ := Aside0.mk (below_step (by repeat (first | (with_reducible first | exact HB.out | apply below_alloc | apply pw_below_drewN | apply below_drew1) | exact HB.out)) hb); have n1_ := Aside0.mk (hbox); have n2_ := Aside0.mk ((by rw [hg]; exact (below_size (by repeat (first | (with_reducible first | exact HB.out | apply below_alloc | apply pw_below_drewN | apply below_drew1) | exact HB.out))) : w.heap.size ≤ ab)); have n3_ := Aside0.mk ((by rw [hg]; exact (below_size (by repeat (first | (with_reducible first | exact HB.out | apply below_alloc | apply pw_below_drewN | apply below_drew1) | exact HB.out))) : w.heap.size ≤ ab)); clear HB; have HB := n0_; have aa := n1_; have GW155 := n2_; have ae := n3_; clear n0_ n1_ n2_ n3_; clear hb hbox hg) | ((with_reducible refine gate_dst (N := 3) rfl ?_); refine box_event ?hg (N := 3) ?hd (cs := #[.int .u32 ak, .int .i64 af]) (t := 24) ?hr ?_; (case hd => rfl); (case hg => rfl); (case hr => first | (go_simp; done) | (go_simp; rfl)); intro ad hg w23 hbox hb; have n0_ := Aside0.mk (blk_below (g := ab) (by (with_reducible repeat (first | refine blk_drewN ?_ _ | refine blk_drew ?_ | refine blk_alloc ?_ _)); exact aa.out) hb); have n1_ := Aside0.mk (below_step (by repeat (first | (with_reducible first | exact HB.out | apply below_alloc | apply pw_below_drewN | apply below_drew1 | refine below_set ?_ ae.out) | exact HB.out)) hb); have n2_ := Aside0.mk (hbox); have n3_ := Aside0.mk ((by rw [hg]; exact (below_size (by repeat (first | (with_reducible first | exact HB.out | apply below_alloc | apply pw_below_drewN | apply below_drew1 | refine below_set ?_ ae.out) | exact HB.out))) : w.heap.size ≤ ad)); have n4_ := Aside0.mk ((by rw [hg]; exact (below_size (by repeat (first | (with_reducible first | exact HB.out | apply below_alloc | apply pw_below_drewN | apply below_drew1 | refine below_set ?_ ae.out) | exact HB.out))) : w.heap.size ≤ ad)); have n5_ := Aside0.mk ((by rw [hg]; exact Nat.ne_of_lt (blk_lt (g := ab) (o := .cells #[.int .u32 ag, .int .i64 ah, .int .i64 ai, .int .i64 aj, .bool al] 26 (0, 0)) (by (with_reducible repeat (first | refine blk_drewN ?_ _ | refine blk_drew ?_ | refine blk_alloc ?_ _)); exact aa.out)) : ab ≠ ad)); have n6_ := Aside0.mk ((by rw [hg]; exact Nat.ne_of_gt (blk_lt (g := ab) (o := .cells #[.int .u32 ag, .int .i64 ah, .int .i64 ai, .int .i64 aj, .bool al] 26 (0, 0)) (by (with_reducible repeat (first | refine blk_drewN ?_ _ | refine blk_drew ?_ | refine blk_alloc ?_ _)); exact aa.out)) : ad ≠ ab)); clear aa; clear HB; have aa := n0_; have HB := n1_; have ac := n2_; have GW156 := n3_; have am := n4_; have NB155_156 := n5_; have NB156_155 := n6_; clear n0_ n1_ n2_ n3_ n4_ n5_ n6_; clear hb hbox hg; have hnb24 := NB155_156.out; have hnc24 := NB156_155.out; have hcz25_0 : w23.cell? ⟨ab, 0, none⟩ = some (.int .u32 ag) := (blk_cell aa.out 0).trans rfl; have hcz25_1 : w23.cell? ⟨ab, 1, none⟩ = some (.int .i64 ah) := (blk_cell aa.out 1).trans rfl; have hcz25_2 : w23.cell? ⟨ab, 2, none⟩ = some (.int .i64 ai) := (blk_cell aa.out 2).trans rfl; have hcz25_3 : w23.cell? ⟨ab, 3, none⟩ = some (.int .i64 aj) := (blk_cell aa.out 3).trans rfl; have hcz25_4 : w23.cell? ⟨ab, 4, none⟩ = some (.bool al) := (blk_cell aa.out 4).trans rfl; have hfz25_0 := blk_frozen aa.out 0; have hfz25_1 := blk_frozen aa.out 1; have hfz25_2 := blk_frozen aa.out 2; have hfz25_3 := blk_frozen aa.out 3; have hfz25_4 := blk_frozen aa.out 4; have hcz26_0 : w23.cell? ⟨ad, 0, none⟩ = some (.int .u32 ak) := (blk_cell ac.out 0).trans rfl; have hcz26_1 : w23.cell? ⟨ad, 1, none⟩ = some (.int .i64 af) := (blk_cell ac.out 1).trans rfl; have hfz26_0 := blk_frozen ac.out 0; have hfz26_1 := blk_frozen ac.out 1) | ((with_reducible refine gate_callee (f := 47) rfl ?_); refine goesL_ (some 8) rfl rfl Try.func47 (by kernel_rfl) rfl #[.agg #[.int .u32 ag, .int .i64 ah], .agg #[.int .u32 ak, .int .i64 af]] rfl (by (try simp only [List.map_toArray, List.map_cons, List.map_nil]); first | done | rfl) ?_; (with_reducible refine (addr_Contains.calls ag ah ak af false _ A3.out).mono ?_); rintro e w27 ⟨rfl, hb⟩; refine ⟨_, rfl, ?_⟩; replace aa := Aside0.mk (blk_below (g := ab) (by (with_reducible repeat (first | refine blk_drewN ?_ _ | refine blk_drew ?_ | refine blk_alloc ?_ _)); exact aa.out) hb); replace ac := Aside0.mk (blk_below (g := ad) (by (with_reducible repeat (first | refine blk_drewN ?_ _ | refine blk_drew ?_ | refine blk_alloc ?_ _)); exact ac.out) hb); replace HB := Aside0.mk (below_step (by repeat (first | (with_reducible first | exact HB.out | apply below_alloc | apply pw_below_drewN | apply below_drew1 | refine below_set ?_ ae.out | refine below_set ?_ am.out) | exact HB.out)) hb); (try clear hb); (try clear hb2); (try clear hk); (try clear hi)))
  go_ret
  exact ⟨by first | rfl | (simp [errW_none, errW_some] <;> rfl) | (simp [*, errW_none, errW_some] <;> rfl), by repeat (first | (with_reducible first | exact HB.out | apply below_alloc | apply pw_below_drewN | apply below_drew1 | refine below_set ?_ ae.out | refine below_set ?_ am.out) | exact HB.out)⟩

end Go.Proofs.Ytndcjncamdhbfaa.P
