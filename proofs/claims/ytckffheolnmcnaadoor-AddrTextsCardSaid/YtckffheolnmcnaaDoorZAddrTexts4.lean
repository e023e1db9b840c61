/- Part of the proof of RowAddrTexts: what it asks of functions, words and plain facts (put together by this session's own program, wip/tools/shake.py). -/
import Derived.Test.YtckffheolnmcnaaDoorZAddrTexts0
import Derived.Test.YtckffheolnmcnaaDoorZAddrTexts1
import Derived.Test.YtckffheolnmcnaaDoorZAddrTexts2
import Derived.Test.YtckffheolnmcnaaDoorZAddrTexts3
section
namespace Go.Proofs.YtckffheolnmcnaaDoor.P
open Go.RowKit Go.Proofs.YtckffheolnmcnaaDoorW.PrintWords Go.Proofs.YtckffheolnmcnaaDoorW.PrintLast Go.Proofs.YtckffheolnmcnaaDoorW.PrintMore
attribute [local go_sem] max2_int min2_int max_two min_two max_three min_three max_four min_four   -- for this text's walks alone
set_option linter.unusedVariables false
set_option linter.unusedSimpArgs false

/-- one number behind the other: r more behind this one -/
def whirligigref01_Parse.l0 (k : Nat) (s : ByteArray) : Nat → Int → List Int → Option (Option (Int × List Int))
  | 0, at_, n => (whirligigref01_digits.f k s at_).bind fun t => if t.1 = 0 then some none else if 0 ≤ t.2 ∧ t.2 ≤ 1000 ∧ 0 ≤ at_ + t.1 ∧ at_ + t.1 ≤ 1000000 then some (some (at_ + t.1, n.set 4 t.2)) else none
  | r + 1, at_, n => (whirligigref01_digits.f k s at_).bind fun t => if t.1 = 0 then some none else if 0 ≤ t.2 ∧ t.2 ≤ 1000 ∧ 0 ≤ at_ + t.1 ∧ at_ + t.1 ≤ 1000000 then
      (if at_ + t.1 < (s.size : Int) then (if bt s (at_ + t.1) = (if r = 0 then 47 else 46) then whirligigref01_Parse.l0 k s r (at_ + t.1 + 1) (n.set (3 - r) t.2) else some none) else some none) else none
/-- a number that is too great -/
def whirligigref01_Parse.over (n : List Int) : Bool := decide (255 < n.getD 0 0) || decide (255 < n.getD 1 0) || decide (255 < n.getD 2 0) || decide (255 < n.getD 3 0) || decide (255 < n.getD 4 0) || decide (32 < n.getD 4 0)
def whirligigref01_Parse.ad (n : List Int) : Int := (n.getD 0 0 * 16777216 + n.getD 1 0 * 65536 + n.getD 2 0 * 256 + n.getD 3 0) % 4294967296
def whirligigref01_Parse.f (k : Nat) (s : ByteArray) : Option (Int × Int × Int) := (whirligigref01_Parse.l0 k s 4 0 [0, 0, 0, 0, 0]).bind fun o => match o with
  | none => some (0, 0, 4)
  | some (a, n) => if a ≠ (s.size : Int) then some (0, 0, 4) else if whirligigref01_Parse.over n = true then some (0, 0, 7) else (whirligigref01_May.f k (whirligigref01_Parse.ad n) (n.getD 4 0)).bind fun m => if m = true then some (whirligigref01_Parse.ad n, n.getD 4 0, 0) else some (0, 0, 1)
/-- what lies in memory -/
structure whirligigref01_Parse.Mem (w W : World) (n0 n1 n2 n3 n4 : Int) : Prop where
  bel : Below w.heap.size w W
  siz : w.heap.size + 2 < W.heap.size
  a0 : W.cell? ⟨w.heap.size, 0, none⟩ = some (.int .u32 0)
  a1 : W.cell? ⟨w.heap.size, 1, none⟩ = some (.int .i64 0)
  b0 : W.cell? ⟨w.heap.size + 1, 0, none⟩ = some (.int .u32 0)
  b1 : W.cell? ⟨w.heap.size + 1, 1, none⟩ = some (.int .i64 0)
  f0 : ∀ j, W.frozen? ⟨w.heap.size, j, none⟩ = false
  c0 : W.cell? ⟨w.heap.size + 1 + 1, 0, none⟩ = some (.int .i64 n0)
  c1 : W.cell? ⟨w.heap.size + 1 + 1, 1, none⟩ = some (.int .i64 n1)
  c2 : W.cell? ⟨w.heap.size + 1 + 1, 2, none⟩ = some (.int .i64 n2)
  c3 : W.cell? ⟨w.heap.size + 1 + 1, 3, none⟩ = some (.int .i64 n3)
  c4 : W.cell? ⟨w.heap.size + 1 + 1, 4, none⟩ = some (.int .i64 n4)
  f2 : ∀ j, W.frozen? ⟨w.heap.size + 1 + 1, j, none⟩ = false
theorem whirligigref01_Parse.Mem.start (w : World) : whirligigref01_Parse.Mem w (((w.alloc (Obj.cells #[Value.int IntKind.u32 0, Value.int IntKind.i64 0] 24)).alloc (Obj.cells #[Value.int IntKind.u32 0, Value.int IntKind.i64 0] 24)).alloc (Obj.cells #[Value.int IntKind.i64 0, Value.int IntKind.i64 0, Value.int IntKind.i64 0, Value.int IntKind.i64 0, Value.int IntKind.i64 0] 43)) 0 0 0 0 0 := by
  refine ⟨below_alloc (below_alloc (below_alloc (Below.refl _ _) _) _) _, ?_, ?_, ?_, ?_, ?_, ?_, ?_, ?_, ?_, ?_, ?_, ?_⟩
  all_goals first | go_simp | (intro j; go_simp)
theorem whirligigref01_Parse.Mem.drewN {w W : World} {n0 n1 n2 n3 n4 : Int} (h : whirligigref01_Parse.Mem w W n0 n1 n2 n3 n4) (m : Nat) : whirligigref01_Parse.Mem w (W.drewN m) n0 n1 n2 n3 n4 :=
  ⟨pw_below_drewN h.bel m, h.siz, h.a0, h.a1, h.b0, h.b1, h.f0, h.c0, h.c1, h.c2, h.c3, h.c4, h.f2⟩
theorem whirligigref01_Parse.Mem.set0 {w W : World} {n0 n1 n2 n3 n4 : Int} (h : whirligigref01_Parse.Mem w W n0 n1 n2 n3 n4) (x : Int) : whirligigref01_Parse.Mem w (W.setCell ⟨w.heap.size + 1 + 1, 0, none⟩ (.int .i64 x)) x n1 n2 n3 n4 := by
  obtain ⟨hbel, hs, A0, A1, B0, B1, F0, C0, C1, C2, C3, C4, F2⟩ := h
  refine ⟨below_set hbel (by omega), ?_, ?_, ?_, ?_, ?_, ?_, ?_, ?_, ?_, ?_, ?_, ?_⟩
  all_goals first | go_simp | (intro j; go_simp)
theorem whirligigref01_Parse.Mem.set1 {w W : World} {n0 n1 n2 n3 n4 : Int} (h : whirligigref01_Parse.Mem w W n0 n1 n2 n3 n4) (x : Int) : whirligigref01_Parse.Mem w (W.setCell ⟨w.heap.size + 1 + 1, 1, none⟩ (.int .i64 x)) n0 x n2 n3 n4 := by
  obtain ⟨hbel, hs, A0, A1, B0, B1, F0, C0, C1, C2, C3, C4, F2⟩ := h
  refine ⟨below_set hbel (by omega), ?_, ?_, ?_, ?_, ?_, ?_, ?_, ?_, ?_, ?_, ?_, ?_⟩
  all_goals first | go_simp | (intro j; go_simp)
theorem whirligigref01_Parse.Mem.set2 {w W : World} {n0 n1 n2 n3 n4 : Int} (h : whirligigref01_Parse.Mem w W n0 n1 n2 n3 n4) (x : Int) : whirligigref01_Parse.Mem w (W.setCell ⟨w.heap.size + 1 + 1, 2, none⟩ (.int .i64 x)) n0 n1 x n3 n4 := by
  obtain ⟨hbel, hs, A0, A1, B0, B1, F0, C0, C1, C2, C3, C4, F2⟩ := h
  refine ⟨below_set hbel (by omega), ?_, ?_, ?_, ?_, ?_, ?_, ?_, ?_, ?_, ?_, ?_, ?_⟩
  all_goals first | go_simp | (intro j; go_simp)
theorem whirligigref01_Parse.Mem.set3 {w W : World} {n0 n1 n2 n3 n4 : Int} (h : whirligigref01_Parse.Mem w W n0 n1 n2 n3 n4) (x : Int) : whirligigref01_Parse.Mem w (W.setCell ⟨w.heap.size + 1 + 1, 3, none⟩ (.int .i64 x)) n0 n1 n2 x n4 := by
  obtain ⟨hbel, hs, A0, A1, B0, B1, F0, C0, C1, C2, C3, C4, F2⟩ := h
  refine ⟨below_set hbel (by omega), ?_, ?_, ?_, ?_, ?_, ?_, ?_, ?_, ?_, ?_, ?_, ?_⟩
  all_goals first | go_simp | (intro j; go_simp)
theorem whirligigref01_Parse.Mem.set4 {w W : World} {n0 n1 n2 n3 n4 : Int} (h : whirligigref01_Parse.Mem w W n0 n1 n2 n3 n4) (x : Int) : whirligigref01_Parse.Mem w (W.setCell ⟨w.heap.size + 1 + 1, 4, none⟩ (.int .i64 x)) n0 n1 n2 n3 x := by
  obtain ⟨hbel, hs, A0, A1, B0, B1, F0, C0, C1, C2, C3, C4, F2⟩ := h
  refine ⟨below_set hbel (by omega), ?_, ?_, ?_, ?_, ?_, ?_, ?_, ?_, ?_, ?_, ?_, ?_⟩
  all_goals first | go_simp | (intro j; go_simp)
theorem whirligigref01_Parse.ret {w W : World} {n0 n1 n2 n3 n4 : Int} (h : whirligigref01_Parse.Mem w W n0 n1 n2 n3 n4) (u v : Value) :
    ((W.setCell ⟨w.heap.size, 0, none⟩ u).setCell ⟨w.heap.size, 1, none⟩ v).cell? ⟨w.heap.size, 0, none⟩ = some u ∧ ((W.setCell ⟨w.heap.size, 0, none⟩ u).setCell ⟨w.heap.size, 1, none⟩ v).cell? ⟨w.heap.size, 1, none⟩ = some v ∧ Below w.heap.size w ((W.setCell ⟨w.heap.size, 0, none⟩ u).setCell ⟨w.heap.size, 1, none⟩ v) := by
  obtain ⟨hbel, hs, A0, A1, B0, B1, F0, C0, C1, C2, C3, C4, F2⟩ := h
  refine ⟨?_, ?_, below_set (below_set hbel (Nat.le_refl _)) (Nat.le_refl _)⟩ <;> go_simp
/-- behind a call that keeps what is older -/
theorem whirligigref01_Parse.Mem.after {w W w' : World} {n0 n1 n2 n3 n4 : Int} (h : whirligigref01_Parse.Mem w W n0 n1 n2 n3 n4) (hb : Below W.heap.size W w') : whirligigref01_Parse.Mem w w' n0 n1 n2 n3 n4 := by
  obtain ⟨hbel, hs, A0, A1, B0, B1, F0, C0, C1, C2, C3, C4, F2⟩ := h
  refine ⟨below_step hbel hb, Nat.lt_of_lt_of_le hs hb.size, pw_cell_below hb A0, pw_cell_below hb A1, pw_cell_below hb B0, pw_cell_below hb B1, fun j => ?_, pw_cell_below hb C0, pw_cell_below hb C1, pw_cell_below hb C2, pw_cell_below hb C3, pw_cell_below hb C4, fun j => ?_⟩
  · rw [hb.frozen (show w.heap.size < W.heap.size by omega)]; exact F0 j
  · rw [hb.frozen (show w.heap.size + 1 + 1 < W.heap.size by omega)]; exact F2 j
theorem whirligigref01_Parse.Mem.alloc {w W : World} {n0 n1 n2 n3 n4 : Int} (h : whirligigref01_Parse.Mem w W n0 n1 n2 n3 n4) (o : Obj) : whirligigref01_Parse.Mem w (W.alloc o) n0 n1 n2 n3 n4 := h.after ((Below.refl _ _).alloc (Nat.le_refl _) _)
set_option maxHeartbeats 4000000 in
set_option maxRecDepth 100000 in
theorem whirligigref01_Parse.calls (k : Nat) (s : ByteArray) (r1 r2 r3 : Int) (w : World) (h : whirligigref01_Parse.f k s = some (r1, r2, r3)) :
    Calls Tryd.prog 6 #[.string s] w fun e w' => e = .returned (.tuple #[.agg #[.int .u32 r1, .int .i64 r2], .int .i64 r3]) ∧ Below w.heap.size w w' := by
  have H := mkHid h
  clear h
  go_enter Tryd.func6, Tryd.ntmps6
  go_wp2_with fail
  obtain ⟨z, hz, hr⟩ := Option.bind_eq_some_iff.mp H.out
  have HR := mkHid hr
  have HZ := mkHid hz
  clear hr hz H
  generalize hW : (((w.alloc _).alloc _).alloc _ : World) = W0
  have HM : Hid (whirligigref01_Parse.Mem w W0 0 0 0 0 0) := by
    subst hW
    exact whirligigref01_Parse.Mem.start w
  clear hW
  go_loopg [6, 7] 4 (fun kq v6 v7 wr => ∃ (i : Nat) (a n0 n1 n2 n3 n4 : Int), v7 = .int .i64 i ∧ v6 = .int .i64 a ∧ i ≤ 4 ∧ kq = 4 - i ∧ 0 ≤ a ∧ a ≤ 1000001 ∧ Hid (whirligigref01_Parse.l0 k s (4 - i) a [n0, n1, n2, n3, n4] = some z) ∧ Hid (whirligigref01_Parse.Mem w wr n0 n1 n2 n3 n4) ∧ Hid ((0 ≤ n0 ∧ n0 ≤ 1000) ∧ (0 ≤ n1 ∧ n1 ≤ 1000) ∧ (0 ≤ n2 ∧ n2 ≤ 1000) ∧ (0 ≤ n3 ∧ n3 ≤ 1000) ∧ (0 ≤ n4 ∧ n4 ≤ 1000)))
  case atStart => exact ⟨0, 0, 0, 0, 0, 0, 0, rfl, rfl, by omega, rfl, by omega, by omega, HZ.out, HM.out, ⟨by decide, by decide, by decide, by decide, by decide⟩⟩
  case round =>
    clear HM HZ W0
    obtain ⟨i, a, n0, n1, n2, n3, n4, rfl, rfl, hi, hkq, ha0, ha1, HL, HM, HN⟩ := hrel
    obtain ⟨hbel, hs, A0, A1, B0, B1, F0, C0, C1, C2, C3, C4, F2⟩ := HM.out
    have HB := mkHid hbel
    clear hbel
    match i, hi with
    | 0, _ =>
      obtain ⟨⟨kk, x⟩, ht, hl⟩ := Option.bind_eq_some_iff.mp HL.out
      have HT := mkHid (fun W => whirligigref01_digits.calls k s a kk x W ht)
      clear ht HL
      by_cases hk0 : kk = 0
      · subst hk0
        rw [if_pos rfl] at hl
        obtain rfl := Option.some.inj hl
        have hr := Option.some.inj HR.out
        obtain ⟨e1, e2⟩ := Prod.mk.inj hr
        obtain ⟨e2, e3⟩ := Prod.mk.inj e2
        subst e1 e2 e3
        clear hl hr
        go_wp2_with (go_at_call 16; refine (HT.out _).mono ?_; rintro e w' ⟨rfl, ⟨⟨m, rfl⟩⟩⟩)
        obtain ⟨z0, z1, z2⟩ := whirligigref01_Parse.ret (whirligigref01_Parse.Mem.drewN HM.out m) (.int .u32 0) (.int .i64 0)
        refine bodyPost_ret (v := .tuple #[.agg #[.int .u32 0, .int .i64 0], .int .i64 4]) ?_ rfl ⟨rfl, z2⟩
        simp [results, Tryd.results6, go_sem, z0, z1]
      · rw [if_neg hk0] at hl
        have q1 : (kk == 0) = false := beq_eq_false_iff_ne.2 hk0
        by_cases hb : 0 ≤ x ∧ x ≤ 1000 ∧ 0 ≤ a + kk ∧ a + kk ≤ 1000000
        case neg => rw [if_neg hb] at hl; cases hl
        rw [if_pos hb] at hl
        obtain ⟨b0, b1, b2, b3⟩ := hb
        obtain ⟨y, hy⟩ : ∃ y : Int, y = a + kk := ⟨_, rfl⟩
        have hw1 : IntKind.i64.wrap (a + kk) = y := by rw [hy]; exact IntWalk.i64_in _ (by omega)
        have hw1' : wrap64 (a + kk) = y := by rw [← i64_w]; exact hw1
        rw [← hy] at hl b2 b3
        have hw2 : IntKind.i64.wrap (y + 1) = y + 1 := IntWalk.i64_in _ (by omega)
        have hw2' : wrap64 (y + 1) = y + 1 := by rw [← i64_w]; exact hw2
        clear hy
        by_cases hlt : y < (s.size : Int)
        case neg =>
          rw [if_neg hlt] at hl
          obtain rfl := Option.some.inj hl
          have hr := Option.some.inj HR.out
          obtain ⟨e1, e2⟩ := Prod.mk.inj hr
          obtain ⟨e2, e3⟩ := Prod.mk.inj e2
          subst e1 e2 e3
          clear hl hr
          have q2 : decide ((s.size : Int) ≤ y) = true := decide_eq_true (by omega)
          go_wp2_with (go_at_call 16; refine (HT.out _).mono ?_; rintro e w' ⟨rfl, ⟨⟨m, rfl⟩⟩⟩)
          obtain ⟨z0, z1, z2⟩ := whirligigref01_Parse.ret (whirligigref01_Parse.Mem.set0 (whirligigref01_Parse.Mem.drewN HM.out m) x) (.int .u32 0) (.int .i64 0)
          refine bodyPost_ret (v := .tuple #[.agg #[.int .u32 0, .int .i64 0], .int .i64 4]) ?_ rfl ⟨rfl, z2⟩
          simp [results, Tryd.results6, go_sem, z0, z1]
        rw [if_pos hlt] at hl
        have q2 : decide ((s.size : Int) ≤ y) = false := decide_eq_false (by omega)
        have p1 : (0 ≤ y) = True := eq_true b2
        have p2 : (y < (s.size : Int)) = True := eq_true hlt
        have hx7 := bt_at s y
        obtain ⟨c, hc⟩ : ∃ c : Int, c = bt s y := ⟨_, rfl⟩
        rw [← hc] at hl hx7
        clear hc
        by_cases hsep : c = 46
        case neg =>
          rw [if_neg (show ¬ c = (if 3 = 0 then 47 else 46) from hsep)] at hl
          obtain rfl := Option.some.inj hl
          have hr := Option.some.inj HR.out
          obtain ⟨e1, e2⟩ := Prod.mk.inj hr
          obtain ⟨e2, e3⟩ := Prod.mk.inj e2
          subst e1 e2 e3
          clear hl hr
          have q3 : (c == 46) = false := beq_eq_false_iff_ne.2 hsep
          have q4 : (c != 46) = true := by rw [bne, q3]; rfl
          go_wp2_with (go_at_call 16; refine (HT.out _).mono ?_; rintro e w' ⟨rfl, ⟨⟨m, rfl⟩⟩⟩)
          obtain ⟨z0, z1, z2⟩ := whirligigref01_Parse.ret (whirligigref01_Parse.Mem.set0 (whirligigref01_Parse.Mem.drewN HM.out m) x) (.int .u32 0) (.int .i64 0)
          refine bodyPost_ret (v := .tuple #[.agg #[.int .u32 0, .int .i64 0], .int .i64 4]) ?_ rfl ⟨rfl, z2⟩
          simp [results, Tryd.results6, go_sem, z0, z1]
        rw [if_pos (show c = (if 3 = 0 then 47 else 46) from hsep)] at hl
        have q3 : (c == 46) = true := beq_iff_eq.2 hsep
        have q4 : (c != 46) = false := by rw [bne, q3]; rfl
        have HL := mkHid hl
        clear hl hsep
        go_wp2_with (go_at_call 16; refine (HT.out _).mono ?_; rintro e w' ⟨rfl, ⟨⟨m, rfl⟩⟩⟩)
        go_roundg 3
        case measure => omega
        case rel => exact ⟨1, y + 1, x, n1, n2, n3, n4, rfl, rfl, by omega, by rfl, by omega, by omega, HL.out, whirligigref01_Parse.Mem.set0 (whirligigref01_Parse.Mem.drewN HM.out _) _, by have := HN.out; unfold Hid; omega⟩
    | 1, _ =>
      obtain ⟨⟨kk, x⟩, ht, hl⟩ := Option.bind_eq_some_iff.mp HL.out
      have HT := mkHid (fun W => whirligigref01_digits.calls k s a kk x W ht)
      clear ht HL
      by_cases hk0 : kk = 0
      · subst hk0
        rw [if_pos rfl] at hl
        obtain rfl := Option.some.inj hl
        have hr := Option.some.inj HR.out
        obtain ⟨e1, e2⟩ := Prod.mk.inj hr
        obtain ⟨e2, e3⟩ := Prod.mk.inj e2
        subst e1 e2 e3
        clear hl hr
        go_wp2_with (go_at_call 16; refine (HT.out _).mono ?_; rintro e w' ⟨rfl, ⟨⟨m, rfl⟩⟩⟩)
        obtain ⟨z0, z1, z2⟩ := whirligigref01_Parse.ret (whirligigref01_Parse.Mem.drewN HM.out m) (.int .u32 0) (.int .i64 0)
        refine bodyPost_ret (v := .tuple #[.agg #[.int .u32 0, .int .i64 0], .int .i64 4]) ?_ rfl ⟨rfl, z2⟩
        simp [results, Tryd.results6, go_sem, z0, z1]
      · rw [if_neg hk0] at hl
        have q1 : (kk == 0) = false := beq_eq_false_iff_ne.2 hk0
        by_cases hb : 0 ≤ x ∧ x ≤ 1000 ∧ 0 ≤ a + kk ∧ a + kk ≤ 1000000
        case neg => rw [if_neg hb] at hl; cases hl
        rw [if_pos hb] at hl
        obtain ⟨b0, b1, b2, b3⟩ := hb
        obtain ⟨y, hy⟩ : ∃ y : Int, y = a + kk := ⟨_, rfl⟩
        have hw1 : IntKind.i64.wrap (a + kk) = y := by rw [hy]; exact IntWalk.i64_in _ (by omega)
        have hw1' : wrap64 (a + kk) = y := by rw [← i64_w]; exact hw1
        rw [← hy] at hl b2 b3
        have hw2 : IntKind.i64.wrap (y + 1) = y + 1 := IntWalk.i64_in _ (by omega)
        have hw2' : wrap64 (y + 1) = y + 1 := by rw [← i64_w]; exact hw2
        clear hy
        by_cases hlt : y < (s.size : Int)
        case neg =>
          rw [if_neg hlt] at hl
          obtain rfl := Option.some.inj hl
          have hr := Option.some.inj HR.out
          obtain ⟨e1, e2⟩ := Prod.mk.inj hr
          obtain ⟨e2, e3⟩ := Prod.mk.inj e2
          subst e1 e2 e3
          clear hl hr
          have q2 : decide ((s.size : Int) ≤ y) = true := decide_eq_true (by omega)
          go_wp2_with (go_at_call 16; refine (HT.out _).mono ?_; rintro e w' ⟨rfl, ⟨⟨m, rfl⟩⟩⟩)
          obtain ⟨z0, z1, z2⟩ := whirligigref01_Parse.ret (whirligigref01_Parse.Mem.set1 (whirligigref01_Parse.Mem.drewN HM.out m) x) (.int .u32 0) (.int .i64 0)
          refine bodyPost_ret (v := .tuple #[.agg #[.int .u32 0, .int .i64 0], .int .i64 4]) ?_ rfl ⟨rfl, z2⟩
          simp [results, Tryd.results6, go_sem, z0, z1]
        rw [if_pos hlt] at hl
        have q2 : decide ((s.size : Int) ≤ y) = false := decide_eq_false (by omega)
        have p1 : (0 ≤ y) = True := eq_true b2
        have p2 : (y < (s.size : Int)) = True := eq_true hlt
        have hx7 := bt_at s y
        obtain ⟨c, hc⟩ : ∃ c : Int, c = bt s y := ⟨_, rfl⟩
        rw [← hc] at hl hx7
        clear hc
        by_cases hsep : c = 46
        case neg =>
          rw [if_neg (show ¬ c = (if 2 = 0 then 47 else 46) from hsep)] at hl
          obtain rfl := Option.some.inj hl
          have hr := Option.some.inj HR.out
          obtain ⟨e1, e2⟩ := Prod.mk.inj hr
          obtain ⟨e2, e3⟩ := Prod.mk.inj e2
          subst e1 e2 e3
          clear hl hr
          have q3 : (c == 46) = false := beq_eq_false_iff_ne.2 hsep
          have q4 : (c != 46) = true := by rw [bne, q3]; rfl
          go_wp2_with (go_at_call 16; refine (HT.out _).mono ?_; rintro e w' ⟨rfl, ⟨⟨m, rfl⟩⟩⟩)
          obtain ⟨z0, z1, z2⟩ := whirligigref01_Parse.ret (whirligigref01_Parse.Mem.set1 (whirligigref01_Parse.Mem.drewN HM.out m) x) (.int .u32 0) (.int .i64 0)
          refine bodyPost_ret (v := .tuple #[.agg #[.int .u32 0, .int .i64 0], .int .i64 4]) ?_ rfl ⟨rfl, z2⟩
          simp [results, Tryd.results6, go_sem, z0, z1]
        rw [if_pos (show c = (if 2 = 0 then 47 else 46) from hsep)] at hl
        have q3 : (c == 46) = true := beq_iff_eq.2 hsep
        have q4 : (c != 46) = false := by rw [bne, q3]; rfl
        have HL := mkHid hl
        clear hl hsep
        go_wp2_with (go_at_call 16; refine (HT.out _).mono ?_; rintro e w' ⟨rfl, ⟨⟨m, rfl⟩⟩⟩)
        go_roundg 2
        case measure => omega
        case rel => exact ⟨2, y + 1, n0, x, n2, n3, n4, rfl, rfl, by omega, by rfl, by omega, by omega, HL.out, whirligigref01_Parse.Mem.set1 (whirligigref01_Parse.Mem.drewN HM.out _) _, by have := HN.out; unfold Hid; omega⟩
    | 2, _ =>
      obtain ⟨⟨kk, x⟩, ht, hl⟩ := Option.bind_eq_some_iff.mp HL.out
      have HT := mkHid (fun W => whirligigref01_digits.calls k s a kk x W ht)
      clear ht HL
      by_cases hk0 : kk = 0
      · subst hk0
        rw [if_pos rfl] at hl
        obtain rfl := Option.some.inj hl
        have hr := Option.some.inj HR.out
        obtain ⟨e1, e2⟩ := Prod.mk.inj hr
        obtain ⟨e2, e3⟩ := Prod.mk.inj e2
        subst e1 e2 e3
        clear hl hr
        go_wp2_with (go_at_call 16; refine (HT.out _).mono ?_; rintro e w' ⟨rfl, ⟨⟨m, rfl⟩⟩⟩)
        obtain ⟨z0, z1, z2⟩ := whirligigref01_Parse.ret (whirligigref01_Parse.Mem.drewN HM.out m) (.int .u32 0) (.int .i64 0)
        refine bodyPost_ret (v := .tuple #[.agg #[.int .u32 0, .int .i64 0], .int .i64 4]) ?_ rfl ⟨rfl, z2⟩
        simp [results, Tryd.results6, go_sem, z0, z1]
      · rw [if_neg hk0] at hl
        have q1 : (kk == 0) = false := beq_eq_false_iff_ne.2 hk0
        by_cases hb : 0 ≤ x ∧ x ≤ 1000 ∧ 0 ≤ a + kk ∧ a + kk ≤ 1000000
        case neg => rw [if_neg hb] at hl; cases hl
        rw [if_pos hb] at hl
        obtain ⟨b0, b1, b2, b3⟩ := hb
        obtain ⟨y, hy⟩ : ∃ y : Int, y = a + kk := ⟨_, rfl⟩
        have hw1 : IntKind.i64.wrap (a + kk) = y := by rw [hy]; exact IntWalk.i64_in _ (by omega)
        have hw1' : wrap64 (a + kk) = y := by rw [← i64_w]; exact hw1
        rw [← hy] at hl b2 b3
        have hw2 : IntKind.i64.wrap (y + 1) = y + 1 := IntWalk.i64_in _ (by omega)
        have hw2' : wrap64 (y + 1) = y + 1 := by rw [← i64_w]; exact hw2
        clear hy
        by_cases hlt : y < (s.size : Int)
        case neg =>
          rw [if_neg hlt] at hl
          obtain rfl := Option.some.inj hl
          have hr := Option.some.inj HR.out
          obtain ⟨e1, e2⟩ := Prod.mk.inj hr
          obtain ⟨e2, e3⟩ := Prod.mk.inj e2
          subst e1 e2 e3
          clear hl hr
          have q2 : decide ((s.size : Int) ≤ y) = true := decide_eq_true (by omega)
          go_wp2_with (go_at_call 16; refine (HT.out _).mono ?_; rintro e w' ⟨rfl, ⟨⟨m, rfl⟩⟩⟩)
          obtain ⟨z0, z1, z2⟩ := whirligigref01_Parse.ret (whirligigref01_Parse.Mem.set2 (whirligigref01_Parse.Mem.drewN HM.out m) x) (.int .u32 0) (.int .i64 0)
          refine bodyPost_ret (v := .tuple #[.agg #[.int .u32 0, .int .i64 0], .int .i64 4]) ?_ rfl ⟨rfl, z2⟩
          simp [results, Tryd.results6, go_sem, z0, z1]
        rw [if_pos hlt] at hl
        have q2 : decide ((s.size : Int) ≤ y) = false := decide_eq_false (by omega)
        have p1 : (0 ≤ y) = True := eq_true b2
        have p2 : (y < (s.size : Int)) = True := eq_true hlt
        have hx7 := bt_at s y
        obtain ⟨c, hc⟩ : ∃ c : Int, c = bt s y := ⟨_, rfl⟩
        rw [← hc] at hl hx7
        clear hc
        by_cases hsep : c = 46
        case neg =>
          rw [if_neg (show ¬ c = (if 1 = 0 then 47 else 46) from hsep)] at hl
          obtain rfl := Option.some.inj hl
          have hr := Option.some.inj HR.out
          obtain ⟨e1, e2⟩ := Prod.mk.inj hr
          obtain ⟨e2, e3⟩ := Prod.mk.inj e2
          subst e1 e2 e3
          clear hl hr
          have q3 : (c == 46) = false := beq_eq_false_iff_ne.2 hsep
          have q4 : (c != 46) = true := by rw [bne, q3]; rfl
          go_wp2_with (go_at_call 16; refine (HT.out _).mono ?_; rintro e w' ⟨rfl, ⟨⟨m, rfl⟩⟩⟩)
          obtain ⟨z0, z1, z2⟩ := whirligigref01_Parse.ret (whirligigref01_Parse.Mem.set2 (whirligigref01_Parse.Mem.drewN HM.out m) x) (.int .u32 0) (.int .i64 0)
          refine bodyPost_ret (v := .tuple #[.agg #[.int .u32 0, .int .i64 0], .int .i64 4]) ?_ rfl ⟨rfl, z2⟩
          simp [results, Tryd.results6, go_sem, z0, z1]
        rw [if_pos (show c = (if 1 = 0 then 47 else 46) from hsep)] at hl
        have q3 : (c == 46) = true := beq_iff_eq.2 hsep
        have q4 : (c != 46) = false := by rw [bne, q3]; rfl
        have HL := mkHid hl
        clear hl hsep
        go_wp2_with (go_at_call 16; refine (HT.out _).mono ?_; rintro e w' ⟨rfl, ⟨⟨m, rfl⟩⟩⟩)
        go_roundg 1
        case measure => omega
        case rel => exact ⟨3, y + 1, n0, n1, x, n3, n4, rfl, rfl, by omega, by rfl, by omega, by omega, HL.out, whirligigref01_Parse.Mem.set2 (whirligigref01_Parse.Mem.drewN HM.out _) _, by have := HN.out; unfold Hid; omega⟩
    | 3, _ =>
      obtain ⟨⟨kk, x⟩, ht, hl⟩ := Option.bind_eq_some_iff.mp HL.out
      have HT := mkHid (fun W => whirligigref01_digits.calls k s a kk x W ht)
      clear ht HL
      by_cases hk0 : kk = 0
      · subst hk0
        rw [if_pos rfl] at hl
        obtain rfl := Option.some.inj hl
        have hr := Option.some.inj HR.out
        obtain ⟨e1, e2⟩ := Prod.mk.inj hr
        obtain ⟨e2, e3⟩ := Prod.mk.inj e2
        subst e1 e2 e3
        clear hl hr
        go_wp2_with (go_at_call 16; refine (HT.out _).mono ?_; rintro e w' ⟨rfl, ⟨⟨m, rfl⟩⟩⟩)
        obtain ⟨z0, z1, z2⟩ := whirligigref01_Parse.ret (whirligigref01_Parse.Mem.drewN HM.out m) (.int .u32 0) (.int .i64 0)
        refine bodyPost_ret (v := .tuple #[.agg #[.int .u32 0, .int .i64 0], .int .i64 4]) ?_ rfl ⟨rfl, z2⟩
        simp [results, Tryd.results6, go_sem, z0, z1]
      · rw [if_neg hk0] at hl
        have q1 : (kk == 0) = false := beq_eq_false_iff_ne.2 hk0
        by_cases hb : 0 ≤ x ∧ x ≤ 1000 ∧ 0 ≤ a + kk ∧ a + kk ≤ 1000000
        case neg => rw [if_neg hb] at hl; cases hl
        rw [if_pos hb] at hl
        obtain ⟨b0, b1, b2, b3⟩ := hb
        obtain ⟨y, hy⟩ : ∃ y : Int, y = a + kk := ⟨_, rfl⟩
        have hw1 : IntKind.i64.wrap (a + kk) = y := by rw [hy]; exact IntWalk.i64_in _ (by omega)
        have hw1' : wrap64 (a + kk) = y := by rw [← i64_w]; exact hw1
        rw [← hy] at hl b2 b3
        have hw2 : IntKind.i64.wrap (y + 1) = y + 1 := IntWalk.i64_in _ (by omega)
        have hw2' : wrap64 (y + 1) = y + 1 := by rw [← i64_w]; exact hw2
        clear hy
        by_cases hlt : y < (s.size : Int)
        case neg =>
          rw [if_neg hlt] at hl
          obtain rfl := Option.some.inj hl
          have hr := Option.some.inj HR.out
          obtain ⟨e1, e2⟩ := Prod.mk.inj hr
          obtain ⟨e2, e3⟩ := Prod.mk.inj e2
          subst e1 e2 e3
          clear hl hr
          have q2 : decide ((s.size : Int) ≤ y) = true := decide_eq_true (by omega)
          go_wp2_with (go_at_call 16; refine (HT.out _).mono ?_; rintro e w' ⟨rfl, ⟨⟨m, rfl⟩⟩⟩)
          obtain ⟨z0, z1, z2⟩ := whirligigref01_Parse.ret (whirligigref01_Parse.Mem.set3 (whirligigref01_Parse.Mem.drewN HM.out m) x) (.int .u32 0) (.int .i64 0)
          refine bodyPost_ret (v := .tuple #[.agg #[.int .u32 0, .int .i64 0], .int .i64 4]) ?_ rfl ⟨rfl, z2⟩
          simp [results, Tryd.results6, go_sem, z0, z1]
        rw [if_pos hlt] at hl
        have q2 : decide ((s.size : Int) ≤ y) = false := decide_eq_false (by omega)
        have p1 : (0 ≤ y) = True := eq_true b2
        have p2 : (y < (s.size : Int)) = True := eq_true hlt
        have hx7 := bt_at s y
        obtain ⟨c, hc⟩ : ∃ c : Int, c = bt s y := ⟨_, rfl⟩
        rw [← hc] at hl hx7
        clear hc
        by_cases hsep : c = 47
        case neg =>
          rw [if_neg (show ¬ c = (if 0 = 0 then 47 else 46) from hsep)] at hl
          obtain rfl := Option.some.inj hl
          have hr := Option.some.inj HR.out
          obtain ⟨e1, e2⟩ := Prod.mk.inj hr
          obtain ⟨e2, e3⟩ := Prod.mk.inj e2
          subst e1 e2 e3
          clear hl hr
          have q3 : (c == 47) = false := beq_eq_false_iff_ne.2 hsep
          have q4 : (c != 47) = true := by rw [bne, q3]; rfl
          go_wp2_with (go_at_call 16; refine (HT.out _).mono ?_; rintro e w' ⟨rfl, ⟨⟨m, rfl⟩⟩⟩)
          obtain ⟨z0, z1, z2⟩ := whirligigref01_Parse.ret (whirligigref01_Parse.Mem.set3 (whirligigref01_Parse.Mem.drewN HM.out m) x) (.int .u32 0) (.int .i64 0)
          refine bodyPost_ret (v := .tuple #[.agg #[.int .u32 0, .int .i64 0], .int .i64 4]) ?_ rfl ⟨rfl, z2⟩
          simp [results, Tryd.results6, go_sem, z0, z1]
        rw [if_pos (show c = (if 0 = 0 then 47 else 46) from hsep)] at hl
        have q3 : (c == 47) = true := beq_iff_eq.2 hsep
        have q4 : (c != 47) = false := by rw [bne, q3]; rfl
        have HL := mkHid hl
        clear hl hsep
        go_wp2_with (go_at_call 16; refine (HT.out _).mono ?_; rintro e w' ⟨rfl, ⟨⟨m, rfl⟩⟩⟩)
        go_roundg 0
        case measure => omega
        case rel => exact ⟨4, y + 1, n0, n1, n2, x, n4, rfl, rfl, by omega, by rfl, by omega, by omega, HL.out, whirligigref01_Parse.Mem.set3 (whirligigref01_Parse.Mem.drewN HM.out _) _, by have := HN.out; unfold Hid; omega⟩
    | 4, _ =>
      obtain ⟨⟨kk, x⟩, ht, hl⟩ := Option.bind_eq_some_iff.mp HL.out
      have HT := mkHid (fun W => whirligigref01_digits.calls k s a kk x W ht)
      clear ht HL
      by_cases hk0 : kk = 0
      · subst hk0
        rw [if_pos rfl] at hl
        obtain rfl := Option.some.inj hl
        have hr := Option.some.inj HR.out
        obtain ⟨e1, e2⟩ := Prod.mk.inj hr
        obtain ⟨e2, e3⟩ := Prod.mk.inj e2
        subst e1 e2 e3
        clear hl hr
        go_wp2_with (go_at_call 16; refine (HT.out _).mono ?_; rintro e w' ⟨rfl, ⟨⟨m, rfl⟩⟩⟩)
        obtain ⟨z0, z1, z2⟩ := whirligigref01_Parse.ret (whirligigref01_Parse.Mem.drewN HM.out m) (.int .u32 0) (.int .i64 0)
        refine bodyPost_ret (v := .tuple #[.agg #[.int .u32 0, .int .i64 0], .int .i64 4]) ?_ rfl ⟨rfl, z2⟩
        simp [results, Tryd.results6, go_sem, z0, z1]
      · rw [if_neg hk0] at hl
        have q1 : (kk == 0) = false := beq_eq_false_iff_ne.2 hk0
        by_cases hb : 0 ≤ x ∧ x ≤ 1000 ∧ 0 ≤ a + kk ∧ a + kk ≤ 1000000
        case neg => rw [if_neg hb] at hl; cases hl
        rw [if_pos hb] at hl
        obtain ⟨b0, b1, b2, b3⟩ := hb
        obtain ⟨y, hy⟩ : ∃ y : Int, y = a + kk := ⟨_, rfl⟩
        have hw1 : IntKind.i64.wrap (a + kk) = y := by rw [hy]; exact IntWalk.i64_in _ (by omega)
        have hw1' : wrap64 (a + kk) = y := by rw [← i64_w]; exact hw1
        rw [← hy] at hl b2 b3
        have hw2 : IntKind.i64.wrap (y + 1) = y + 1 := IntWalk.i64_in _ (by omega)
        have hw2' : wrap64 (y + 1) = y + 1 := by rw [← i64_w]; exact hw2
        clear hy
        obtain rfl := Option.some.inj hl
        have HR2 : Hid ((if y ≠ (s.size : Int) then some (0, 0, 4) else if whirligigref01_Parse.over [n0, n1, n2, n3, x] = true then some (0, 0, 7) else (whirligigref01_May.f k (whirligigref01_Parse.ad [n0, n1, n2, n3, x]) x).bind fun m => if m = true then some (whirligigref01_Parse.ad [n0, n1, n2, n3, x], x, 0) else some (0, 0, 1)) = some (r1, r2, r3)) := HR.out
        have HN2 : Hid ((0 ≤ n0 ∧ n0 ≤ 1000) ∧ (0 ≤ n1 ∧ n1 ≤ 1000) ∧ (0 ≤ n2 ∧ n2 ≤ 1000) ∧ (0 ≤ n3 ∧ n3 ≤ 1000) ∧ (0 ≤ x ∧ x ≤ 1000)) := ⟨HN.out.1, HN.out.2.1, HN.out.2.2.1, HN.out.2.2.2.1, b0, b1⟩
        have HM2 : Hid (∀ m, whirligigref01_Parse.Mem w ((wr.drewN m).setCell ⟨w.heap.size + 1 + 1, 4, none⟩ (.int .i64 x)) n0 n1 n2 n3 x) := fun m => whirligigref01_Parse.Mem.set4 (whirligigref01_Parse.Mem.drewN HM.out m) x
        clear HR HN
        by_cases hsz : y = (s.size : Int)
        case neg =>
          have hr := HR2.out
          rw [if_pos hsz] at hr
          obtain ⟨e1, e2⟩ := Prod.mk.inj (Option.some.inj hr)
          obtain ⟨e2, e3⟩ := Prod.mk.inj e2
          subst e1 e2 e3
          have q5 : (y == (s.size : Int)) = false := beq_eq_false_iff_ne.2 hsz
          have q6 : (y != (s.size : Int)) = true := by rw [bne, q5]; rfl
          clear hr
          go_wp2_with (go_at_call 16; refine (HT.out _).mono ?_; rintro e w' ⟨rfl, ⟨⟨m, rfl⟩⟩⟩)
          obtain ⟨z0, z1, z2⟩ := whirligigref01_Parse.ret (HM2.out m) (.int .u32 0) (.int .i64 0)
          refine bodyPost_ret (v := .tuple #[.agg #[.int .u32 0, .int .i64 0], .int .i64 4]) ?_ rfl ⟨rfl, z2⟩
          simp [results, Tryd.results6, go_sem, z0, z1]
        have hr := HR2.out
        rw [if_neg (fun h => h hsz)] at hr
        have HR := mkHid hr
        have q5 : (y == (s.size : Int)) = true := beq_iff_eq.2 hsz
        have q6 : (y != (s.size : Int)) = false := by rw [bne, q5]; rfl
        clear hr HR2
        go_wp2_with (go_at_call 16; refine (HT.out _).mono ?_; rintro e w' ⟨rfl, ⟨⟨m, rfl⟩⟩⟩)
        have HM := mkHid (HM2.out m)
        generalize (wr.drewN m).setCell ⟨w.heap.size + 1 + 1, 4, none⟩ (.int .i64 x) = W3 at *
        clear HM2 A0 A1 B0 B1 F0 C0 C1 C2 C3 C4 F2 hs
        go_loopg [10] 5 (fun kq v10 wx => ∃ (j : Nat), v10 = .int .i64 j ∧ j ≤ 5 ∧ kq = 5 - j ∧ Hid ((1 ≤ j → n0 ≤ 255) ∧ (2 ≤ j → n1 ≤ 255) ∧ (3 ≤ j → n2 ≤ 255) ∧ (4 ≤ j → n3 ≤ 255) ∧ (5 ≤ j → x ≤ 32)) ∧ Hid (whirligigref01_Parse.Mem w wx n0 n1 n2 n3 x))
        case atStart => exact ⟨0, rfl, by omega, rfl, by unfold Hid; omega, HM.out⟩
        case round =>
          clear HM
          obtain ⟨j, rfl, hj, hkq2, HJ, HM⟩ := hrel
          obtain ⟨_, hs, A0, A1, B0, B1, F0, C0, C1, C2, C3, C4, F2⟩ := HM.out
          match j, hj with
          | 0, _ =>
            by_cases hv : 255 < n0
            · have q7 : decide (255 < n0) = true := decide_eq_true hv
              have hr := HR.out
              rw [if_pos (show whirligigref01_Parse.over [n0, n1, n2, n3, x] = true by unfold whirligigref01_Parse.over; simp; omega)] at hr
              obtain ⟨e1, e2⟩ := Prod.mk.inj (Option.some.inj hr)
              obtain ⟨e2, e3⟩ := Prod.mk.inj e2
              subst e1 e2 e3
              clear hr
              first | (go_wp2_with fail; (refine bodyPost_ret (v := .tuple #[.agg #[.int .u32 0, .int .i64 0], .int .i64 7]) ?_ rfl ⟨rfl, (whirligigref01_Parse.ret HM.out (.int .u32 0) (.int .i64 0)).2.2⟩); simp [results, Tryd.results6, go_sem, (whirligigref01_Parse.ret HM.out (.int .u32 0) (.int .i64 0)).1, (whirligigref01_Parse.ret HM.out (.int .u32 0) (.int .i64 0)).2.1]) | skip
            · have q7 : decide (255 < n0) = false := decide_eq_false hv
              go_wp2_with fail
              go_roundg 4
              case measure => omega
              case rel => exact ⟨1, rfl, by omega, rfl, by have := HJ.out; unfold Hid; omega, HM.out⟩
          | 1, _ =>
            by_cases hv : 255 < n1
            · have q7 : decide (255 < n1) = true := decide_eq_true hv
              have hr := HR.out
              rw [if_pos (show whirligigref01_Parse.over [n0, n1, n2, n3, x] = true by unfold whirligigref01_Parse.over; simp; omega)] at hr
              obtain ⟨e1, e2⟩ := Prod.mk.inj (Option.some.inj hr)
              obtain ⟨e2, e3⟩ := Prod.mk.inj e2
              subst e1 e2 e3
              clear hr
              first | (go_wp2_with fail; (refine bodyPost_ret (v := .tuple #[.agg #[.int .u32 0, .int .i64 0], .int .i64 7]) ?_ rfl ⟨rfl, (whirligigref01_Parse.ret HM.out (.int .u32 0) (.int .i64 0)).2.2⟩); simp [results, Tryd.results6, go_sem, (whirligigref01_Parse.ret HM.out (.int .u32 0) (.int .i64 0)).1, (whirligigref01_Parse.ret HM.out (.int .u32 0) (.int .i64 0)).2.1]) | skip
            · have q7 : decide (255 < n1) = false := decide_eq_false hv
              go_wp2_with fail
              go_roundg 3
              case measure => omega
              case rel => exact ⟨2, rfl, by omega, rfl, by have := HJ.out; unfold Hid; omega, HM.out⟩
          | 2, _ =>
            by_cases hv : 255 < n2
            · have q7 : decide (255 < n2) = true := decide_eq_true hv
              have hr := HR.out
              rw [if_pos (show whirligigref01_Parse.over [n0, n1, n2, n3, x] = true by unfold whirligigref01_Parse.over; simp; omega)] at hr
              obtain ⟨e1, e2⟩ := Prod.mk.inj (Option.some.inj hr)
              obtain ⟨e2, e3⟩ := Prod.mk.inj e2
              subst e1 e2 e3
              clear hr
              first | (go_wp2_with fail; (refine bodyPost_ret (v := .tuple #[.agg #[.int .u32 0, .int .i64 0], .int .i64 7]) ?_ rfl ⟨rfl, (whirligigref01_Parse.ret HM.out (.int .u32 0) (.int .i64 0)).2.2⟩); simp [results, Tryd.results6, go_sem, (whirligigref01_Parse.ret HM.out (.int .u32 0) (.int .i64 0)).1, (whirligigref01_Parse.ret HM.out (.int .u32 0) (.int .i64 0)).2.1]) | skip
            · have q7 : decide (255 < n2) = false := decide_eq_false hv
              go_wp2_with fail
              go_roundg 2
              case measure => omega
              case rel => exact ⟨3, rfl, by omega, rfl, by have := HJ.out; unfold Hid; omega, HM.out⟩
          | 3, _ =>
            by_cases hv : 255 < n3
            · have q7 : decide (255 < n3) = true := decide_eq_true hv
              have hr := HR.out
              rw [if_pos (show whirligigref01_Parse.over [n0, n1, n2, n3, x] = true by unfold whirligigref01_Parse.over; simp; omega)] at hr
              obtain ⟨e1, e2⟩ := Prod.mk.inj (Option.some.inj hr)
              obtain ⟨e2, e3⟩ := Prod.mk.inj e2
              subst e1 e2 e3
              clear hr
              first | (go_wp2_with fail; (refine bodyPost_ret (v := .tuple #[.agg #[.int .u32 0, .int .i64 0], .int .i64 7]) ?_ rfl ⟨rfl, (whirligigref01_Parse.ret HM.out (.int .u32 0) (.int .i64 0)).2.2⟩); simp [results, Tryd.results6, go_sem, (whirligigref01_Parse.ret HM.out (.int .u32 0) (.int .i64 0)).1, (whirligigref01_Parse.ret HM.out (.int .u32 0) (.int .i64 0)).2.1]) | skip
            · have q7 : decide (255 < n3) = false := decide_eq_false hv
              go_wp2_with fail
              go_roundg 1
              case measure => omega
              case rel => exact ⟨4, rfl, by omega, rfl, by have := HJ.out; unfold Hid; omega, HM.out⟩
          | 4, _ =>
            by_cases hv : 255 < x
            · have q7 : decide (255 < x) = true := decide_eq_true hv
              have hr := HR.out
              rw [if_pos (show whirligigref01_Parse.over [n0, n1, n2, n3, x] = true by unfold whirligigref01_Parse.over; simp; omega)] at hr
              obtain ⟨e1, e2⟩ := Prod.mk.inj (Option.some.inj hr)
              obtain ⟨e2, e3⟩ := Prod.mk.inj e2
              subst e1 e2 e3
              clear hr
              first | (go_wp2_with fail; (refine bodyPost_ret (v := .tuple #[.agg #[.int .u32 0, .int .i64 0], .int .i64 7]) ?_ rfl ⟨rfl, (whirligigref01_Parse.ret HM.out (.int .u32 0) (.int .i64 0)).2.2⟩); simp [results, Tryd.results6, go_sem, (whirligigref01_Parse.ret HM.out (.int .u32 0) (.int .i64 0)).1, (whirligigref01_Parse.ret HM.out (.int .u32 0) (.int .i64 0)).2.1]) | skip
            · have q7 : decide (255 < x) = false := decide_eq_false hv
              by_cases hv2 : 32 < x
              · have q8 : decide (32 < x) = true := decide_eq_true hv2
                have hr := HR.out
                rw [if_pos (show whirligigref01_Parse.over [n0, n1, n2, n3, x] = true by unfold whirligigref01_Parse.over; simp; omega)] at hr
                obtain ⟨e1, e2⟩ := Prod.mk.inj (Option.some.inj hr)
                obtain ⟨e2, e3⟩ := Prod.mk.inj e2
                subst e1 e2 e3
                clear hr
                first | (go_wp2_with fail; (refine bodyPost_ret (v := .tuple #[.agg #[.int .u32 0, .int .i64 0], .int .i64 7]) ?_ rfl ⟨rfl, (whirligigref01_Parse.ret HM.out (.int .u32 0) (.int .i64 0)).2.2⟩); simp [results, Tryd.results6, go_sem, (whirligigref01_Parse.ret HM.out (.int .u32 0) (.int .i64 0)).1, (whirligigref01_Parse.ret HM.out (.int .u32 0) (.int .i64 0)).2.1]) | skip
              · have q8 : decide (32 < x) = false := decide_eq_false hv2
                go_wp2_with fail
                go_roundg 0
                case measure => omega
                case rel => exact ⟨5, rfl, by omega, rfl, by have := HJ.out; unfold Hid; omega, HM.out⟩
          | 5, _ =>
            obtain ⟨j0, j1, j2, j3, j4⟩ := HJ.out
            have j0 := j0 (by omega)
            have j1 := j1 (by omega)
            have j2 := j2 (by omega)
            have j3 := j3 (by omega)
            have j4 := j4 (by omega)
            obtain ⟨⟨a0, _⟩, ⟨a1, _⟩, ⟨a2, _⟩, ⟨a3, _⟩, a4, _⟩ := HN2.out
            have hr := HR.out
            rw [if_neg (show ¬ whirligigref01_Parse.over [n0, n1, n2, n3, x] = true by unfold whirligigref01_Parse.over; simp; omega)] at hr
            obtain ⟨b, hb, hr⟩ := Option.bind_eq_some_iff.mp hr
            have had : whirligigref01_Parse.ad [n0, n1, n2, n3, x] = n0 * 16777216 + n1 * 65536 + n2 * 256 + n3 := by unfold whirligigref01_Parse.ad; simp; omega
            rw [had] at hb hr
            have w0 : IntKind.i64.wrap (n0 * 16777216) = n0 * 16777216 := IntWalk.i64_in _ (by omega)
            have w1 : IntKind.i64.wrap (n1 * 65536) = n1 * 65536 := IntWalk.i64_in _ (by omega)
            have w2 : IntKind.i64.wrap (n2 * 256) = n2 * 256 := IntWalk.i64_in _ (by omega)
            have w3 : IntKind.i64.wrap (n0 * 16777216 + n1 * 65536) = n0 * 16777216 + n1 * 65536 := IntWalk.i64_in _ (by omega)
            have w4 : IntKind.i64.wrap (n0 * 16777216 + n1 * 65536 + n2 * 256) = n0 * 16777216 + n1 * 65536 + n2 * 256 := IntWalk.i64_in _ (by omega)
            have w5 : IntKind.i64.wrap (n0 * 16777216 + n1 * 65536 + n2 * 256 + n3) = n0 * 16777216 + n1 * 65536 + n2 * 256 + n3 := IntWalk.i64_in _ (by omega)
            have w0' : wrap64 (n0 * 16777216) = n0 * 16777216 := by rw [← i64_w]; exact w0
            have w1' : wrap64 (n1 * 65536) = n1 * 65536 := by rw [← i64_w]; exact w1
            have w2' : wrap64 (n2 * 256) = n2 * 256 := by rw [← i64_w]; exact w2
            have w3' : wrap64 (n0 * 16777216 + n1 * 65536) = n0 * 16777216 + n1 * 65536 := by rw [← i64_w]; exact w3
            have w4' : wrap64 (n0 * 16777216 + n1 * 65536 + n2 * 256) = n0 * 16777216 + n1 * 65536 + n2 * 256 := by rw [← i64_w]; exact w4
            have w5' : wrap64 (n0 * 16777216 + n1 * 65536 + n2 * 256 + n3) = n0 * 16777216 + n1 * 65536 + n2 * 256 + n3 := by rw [← i64_w]; exact w5
            have w6' : (n0 * 16777216 + n1 * 65536 + n2 * 256 + n3) % 4294967296 = n0 * 16777216 + n1 * 65536 + n2 * 256 + n3 := by omega
            have w6 : IntKind.u32.wrap (n0 * 16777216 + n1 * 65536 + n2 * 256 + n3) = n0 * 16777216 + n1 * 65536 + n2 * 256 + n3 := by rw [IntKind.wrap_u32]; omega
            have HMAY := mkHid (fun W => whirligigref01_May.calls k (n0 * 16777216 + n1 * 65536 + n2 * 256 + n3) x b W hb)
            have HRR := mkHid hr
            clear hb hr had HR HJ HN2
            go_wp2_with fail
            refine (HMAY.out _).mono ?_
            rintro e w4 ⟨rfl, hb⟩
            have hm4 := whirligigref01_Parse.Mem.after (whirligigref01_Parse.Mem.alloc HM.out _) hb
            have g0 : w4.cell? ⟨wr.heap.size, 0, none⟩ = some (.int .u32 (n0 * 16777216 + n1 * 65536 + n2 * 256 + n3)) := pw_cell_below hb (by go_simp)
            have g1 : w4.cell? ⟨wr.heap.size, 1, none⟩ = some (.int .i64 x) := pw_cell_below hb (by go_simp)
            clear hb hs A0 A1 B0 B1 F0 C0 C1 C2 C3 C4 F2
            have HM4 := mkHid hm4
            obtain ⟨_, hs, A0, A1, B0, B1, F0, C0, C1, C2, C3, C4, F2⟩ := hm4
            cases b with
            | true =>
              have e := Option.some.inj HRR.out
              simp only [if_true, if_false, Bool.false_eq_true, Prod.mk.injEq] at e
              obtain ⟨e1, e2, e3⟩ := e
              have HE1 := mkHid e1
              have HE2 := mkHid e2
              subst e3
              clear e1 e2 HRR
              go_wp2_with fail
              obtain ⟨z0, z1, z2⟩ := whirligigref01_Parse.ret HM4.out (.int .u32 (n0 * 16777216 + n1 * 65536 + n2 * 256 + n3)) (.int .i64 x)
              refine bodyPost_ret (v := .tuple #[.agg #[.int .u32 (n0 * 16777216 + n1 * 65536 + n2 * 256 + n3), .int .i64 x], .int .i64 0]) ?_ rfl ⟨by rw [HE1.out, HE2.out], z2⟩
              simp [results, Tryd.results6, go_sem, z0, z1]
            | false =>
              have e := Option.some.inj HRR.out
              simp only [if_true, if_false, Bool.false_eq_true, Prod.mk.injEq] at e
              obtain ⟨e1, e2, e3⟩ := e
              subst e1 e2 e3
              clear HRR
              go_wp2_with fail
              obtain ⟨z0, z1, z2⟩ := whirligigref01_Parse.ret HM4.out (.int .u32 0) (.int .i64 0)
              refine bodyPost_ret (v := .tuple #[.agg #[.int .u32 0, .int .i64 0], .int .i64 1]) ?_ rfl ⟨rfl, z2⟩
              simp [results, Tryd.results6, go_sem, z0, z1]
    | i + 5, h => exact absurd h (by omega)

end Go.Proofs.YtckffheolnmcnaaDoor.P

end
section
namespace Go.Proofs.YtckffheolnmcnaaDoor.P
open Go.RowKit Go.Proofs.YtckffheolnmcnaaDoorW.PrintWords Go.Proofs.YtckffheolnmcnaaDoorW.PrintLast Go.Proofs.YtckffheolnmcnaaDoorW.PrintMore
attribute [local go_sem] max2_int min2_int max_two min_two max_three min_three max_four min_four   -- for this text's walks alone
set_option linter.unusedVariables false
set_option linter.unusedSimpArgs false

def whirligigref01_Number.l0 : Nat → Int → ByteArray → Option (ByteArray)
  | 0, _, _ => none
  | k + 1, x0, x3 => if x0 ≥ 10 then ((some (([(wrap64 (48 + (Int.tmod x0 10))) % 256] : List Int) : List Int)).bind fun y173 => (if (strOfNums y173).size + x3.size ≤ 9223372036854775807 then (whirligigref01_Number.l0 k (wrap64 (Int.tdiv x0 10)) ((strOfNums y173) ++ x3)) else (none))) else ((some (([(wrap64 (48 + x0)) % 256] : List Int) : List Int)).bind fun y176 => (if (strOfNums y176).size + x3.size ≤ 9223372036854775807 then (some ((strOfNums y176) ++ x3)) else (none)))
def whirligigref01_Number.f (k : Nat) (a0 : Int) : Option (ByteArray) := whirligigref01_Number.l0 k a0 (⟨#[]⟩ : ByteArray)
set_option maxHeartbeats 8000000 in
set_option maxRecDepth 100000 in
theorem whirligigref01_Number.calls (k : Nat) (a0 : Int) (r : ByteArray) (w : World) (h : whirligigref01_Number.f k a0 = some r) :
    Calls Tryd.prog 21 #[.int .i64 a0] w fun e w' => e = .returned (.string r) ∧ Below w.heap.size w w' := by
  have HB := Aside0.mk (Below.refl w.heap.size w)
  have H : (whirligigref01_Number.l0 k a0 (⟨#[]⟩ : ByteArray)) = some r := h
  clear h
  have H' := Aside0.mk H
  clear H
  go_enter Tryd.func21, Tryd.ntmps21
  go_wp2
  go_loopg [0, 3] k (fun kq v0 v3 w' => ∃ (x0_1 : Int) (x3_1 : ByteArray), v0 = .int .i64 x0_1 ∧ v3 = .string x3_1 ∧ Aside0 (whirligigref01_Number.l0 kq x0_1 x3_1 = some r) ∧ Aside0 (kq ≤ k) ∧ Aside0 (Below w.heap.size w w'))
  case atStart => exact ⟨(a0), ((⟨#[]⟩ : ByteArray)), (by first | rfl | (simp; done) | (simp [*]; done)), (by first | rfl | (simp; done) | (simp [*]; done)), H', ⟨Nat.le_refl _⟩, ⟨by repeat (first | (with_reducible first | exact HB.out | apply below_alloc | apply pw_below_drewN | apply below_drew1) | exact HB.out)⟩⟩
  case round =>
    clear H'
    obtain ⟨x0_1, x3_1, rfl, rfl, HA, HK1, HB⟩ := hrel
    cases gk with
    | zero => exact absurd HA.out (by simp [whirligigref01_Number.l0])
    | succ k1 =>
      have H := HA.out
      clear HA
      simp only [whirligigref01_Number.l0] at H
      by_cases c2 : x0_1 ≥ 10
      · rw [if_pos c2] at H
        have c2b0 : decide (10 ≤ x0_1) = true := decide_eq_true c2
        clear c2
        obtain ⟨y173, hy173⟩ : ∃ y_ : List Int, y_ = (([(wrap64 (48 + (Int.tmod x0_1 10))) % 256] : List Int)) := ⟨_, rfl⟩
        replace H : (if (strOfNums y173).size + x3_1.size ≤ 9223372036854775807 then (whirligigref01_Number.l0 k1 (wrap64 (Int.tdiv x0_1 10)) ((strOfNums y173) ++ x3_1)) else (none)) = some r := by first | (rw [hy173]; with_reducible exact H) | (have H2_ := (Option.bind_some _ _).symm.trans H; rw [hy173]; with_reducible exact H2_) | (have H2_ := (Option.bind_some _ _).symm.trans H; with_reducible exact H2_) | with_reducible exact H | (rw [hy173]; exact H) | exact H
        have Ny173 := Aside0.mk hy173
        clear hy173
        by_cases c3 : (strOfNums y173).size + x3_1.size ≤ 9223372036854775807
        · rw [if_pos c3] at H
          have c3b0 := eq_true c3
          have c3b1 : decide ((strOfNums y173).size + x3_1.size ≤ 9223372036854775807) = true := decide_eq_true c3
          try have c3b2 : (9223372036854775807 < (strOfNums y173).size + x3_1.size) = False := eq_false (Nat.not_lt.2 c3)
          have H' := Aside0.mk H
          clear H
          go_wp2_with (first | ((with_reducible refine gate_dst (N := 10) rfl ?_); refine Kd.R_lit (Kd.int .u8) _ 5 ?hg (N := 10) ?hd (xs := ([(wrap64 (48 + (Int.tmod x0_1 10))) % 256] : List Int)) (inner := [.int .u8 ((wrap64 (48 + (Int.tmod x0_1 10))) % 256)]) (ok := fun _ => True) (okp := fun _ => True) ?hr ?hp (fun _ hk => hk) trivial (Below.refl _ _) (Nat.le_refl _) (by simp) ?_; (case hd => rfl); (case hg => rfl); (case hr => first | (go_simp; done) | (go_simp; rfl)); (case hp => exact (Reps.one (show Kd.M (Kd.int .u8) _ _ _ ((wrap64 (48 + (Int.tmod x0_1 10))) % 256) [.int .u8 ((wrap64 (48 + (Int.tmod x0_1 10))) % 256)] from rfl) (Reps.none _ _))); intro v174 w4 ho5 hb hg_ hnew_; clear hg_ hnew_; (first | rw [← Ny173.out] at ho5 | (simp only [Int.reduceToNat] at ho5; rw [← Ny173.out] at ho5)); have n0_ := Aside0.mk (Kd.R_lower ho5 (below_size (by repeat (first | (with_reducible first | exact HB.out | apply below_alloc | apply pw_below_drewN | apply below_drew1) | exact HB.out)))); have n1_ := Aside0.mk (below_step (by repeat (first | (with_reducible first | exact HB.out | apply below_alloc | apply pw_below_drewN | apply below_drew1) | exact HB.out)) hb); clear HB; have HO175 := n0_; have HB := n1_; clear n0_ n1_; clear hb ho5; have hcv6 := own_string (P := Tryd.prog) Tryd.underlying54 Tryd.underlying5 Tryd.underlying9 (Kd.own_of_R HO175.out)))
          go_roundg k1
          case measure => have := HK1.out; omega
          case rel => exact ⟨(wrap64 (Int.tdiv x0_1 10)), ((strOfNums y173) ++ x3_1), (by first | rfl | (simp; done) | (simp [*]; done)), (by first | rfl | (simp; done) | (simp [*]; done)), H', ⟨by have := HK1.out; omega⟩, ⟨by repeat (first | (with_reducible first | exact HB.out | apply below_alloc | apply pw_below_drewN | apply below_drew1) | exact HB.out)⟩⟩
        · rw [if_neg c3] at H
          exact absurd H (by simp)
      · rw [if_neg c2] at H
        have c2b0 : decide (10 ≤ x0_1) = false := decide_eq_false c2
        clear c2
        obtain ⟨y176, hy176⟩ : ∃ y_ : List Int, y_ = (([(wrap64 (48 + x0_1)) % 256] : List Int)) := ⟨_, rfl⟩
        replace H : (if (strOfNums y176).size + x3_1.size ≤ 9223372036854775807 then (some ((strOfNums y176) ++ x3_1)) else (none)) = some r := by first | (rw [hy176]; with_reducible exact H) | (have H2_ := (Option.bind_some _ _).symm.trans H; rw [hy176]; with_reducible exact H2_) | (have H2_ := (Option.bind_some _ _).symm.trans H; with_reducible exact H2_) | with_reducible exact H | (rw [hy176]; exact H) | exact H
        have Ny176 := Aside0.mk hy176
        clear hy176
        by_cases c7 : (strOfNums y176).size + x3_1.size ≤ 9223372036854775807
        · rw [if_pos c7] at H
          have c7b0 := eq_true c7
          have c7b1 : decide ((strOfNums y176).size + x3_1.size ≤ 9223372036854775807) = true := decide_eq_true c7
          try have c7b2 : (9223372036854775807 < (strOfNums y176).size + x3_1.size) = False := eq_false (Nat.not_lt.2 c7)
          obtain rfl := Option.some.inj H
          go_wp2_with (first | ((with_reducible refine gate_dst (N := 19) rfl ?_); refine Kd.R_lit (Kd.int .u8) _ 5 ?hg (N := 19) ?hd (xs := ([(wrap64 (48 + x0_1)) % 256] : List Int)) (inner := [.int .u8 ((wrap64 (48 + x0_1)) % 256)]) (ok := fun _ => True) (okp := fun _ => True) ?hr ?hp (fun _ hk => hk) trivial (Below.refl _ _) (Nat.le_refl _) (by simp) ?_; (case hd => rfl); (case hg => rfl); (case hr => first | (go_simp; done) | (go_simp; rfl)); (case hp => exact (Reps.one (show Kd.M (Kd.int .u8) _ _ _ ((wrap64 (48 + x0_1)) % 256) [.int .u8 ((wrap64 (48 + x0_1)) % 256)] from rfl) (Reps.none _ _))); intro v177 w8 ho9 hb hg_ hnew_; clear hg_ hnew_; (first | rw [← Ny176.out] at ho9 | (simp only [Int.reduceToNat] at ho9; rw [← Ny176.out] at ho9)); have n0_ := Aside0.mk (Kd.R_lower ho9 (below_size (by repeat (first | (with_reducible first | exact HB.out | apply below_alloc | apply pw_below_drewN | apply below_drew1) | exact HB.out)))); have n1_ := Aside0.mk (below_step (by repeat (first | (with_reducible first | exact HB.out | apply below_alloc | apply pw_below_drewN | apply below_drew1) | exact HB.out)) hb); clear HB; have HO178 := n0_; have HB := n1_; clear n0_ n1_; clear hb ho9; have hcv10 := own_string (P := Tryd.prog) Tryd.underlying54 Tryd.underlying5 Tryd.underlying9 (Kd.own_of_R HO178.out)))
          go_ret
          exact ⟨by first | rfl | (simp [errW_none, errW_some] <;> rfl) | (simp [*, errW_none, errW_some] <;> rfl), by repeat (first | (with_reducible first | exact HB.out | apply below_alloc | apply pw_below_drewN | apply below_drew1) | exact HB.out)⟩
        · rw [if_neg c7] at H
          exact absurd H (by simp)

def whirligigref01_Text.f (k : Nat) (a0_0 : Int) (a0_1 : Int) : Option (ByteArray) := (whirligigref01_May.f k a0_0 a0_1).bind fun t180 => (if t180 = true then ((whirligigref01_Number.f k (wrap64 (Int.tdiv (wrap64 (a0_0)) 16777216))).bind fun t181 => (if t181.size + 1 ≤ 9223372036854775807 then ((whirligigref01_Number.f k (Int.tmod (wrap64 (Int.tdiv (wrap64 (a0_0)) 65536)) 256)).bind fun t182 => (if (t181 ++ (⟨#[46]⟩ : ByteArray)).size + t182.size ≤ 9223372036854775807 then (if ((t181 ++ (⟨#[46]⟩ : ByteArray)) ++ t182).size + 1 ≤ 9223372036854775807 then ((whirligigref01_Number.f k (Int.tmod (wrap64 (Int.tdiv (wrap64 (a0_0)) 256)) 256)).bind fun t183 => (if (((t181 ++ (⟨#[46]⟩ : ByteArray)) ++ t182) ++ (⟨#[46]⟩ : ByteArray)).size + t183.size ≤ 9223372036854775807 then (if ((((t181 ++ (⟨#[46]⟩ : ByteArray)) ++ t182) ++ (⟨#[46]⟩ : ByteArray)) ++ t183).size + 1 ≤ 9223372036854775807 then ((whirligigref01_Number.f k (Int.tmod (wrap64 (a0_0)) 256)).bind fun t184 => (if (((((t181 ++ (⟨#[46]⟩ : ByteArray)) ++ t182) ++ (⟨#[46]⟩ : ByteArray)) ++ t183) ++ (⟨#[46]⟩ : ByteArray)).size + t184.size ≤ 9223372036854775807 then (if ((((((t181 ++ (⟨#[46]⟩ : ByteArray)) ++ t182) ++ (⟨#[46]⟩ : ByteArray)) ++ t183) ++ (⟨#[46]⟩ : ByteArray)) ++ t184).size + 1 ≤ 9223372036854775807 then ((whirligigref01_Number.f k a0_1).bind fun t185 => (if (((((((t181 ++ (⟨#[46]⟩ : ByteArray)) ++ t182) ++ (⟨#[46]⟩ : ByteArray)) ++ t183) ++ (⟨#[46]⟩ : ByteArray)) ++ t184) ++ (⟨#[47]⟩ : ByteArray)).size + t185.size ≤ 9223372036854775807 then (some ((((((((t181 ++ (⟨#[46]⟩ : ByteArray)) ++ t182) ++ (⟨#[46]⟩ : ByteArray)) ++ t183) ++ (⟨#[46]⟩ : ByteArray)) ++ t184) ++ (⟨#[47]⟩ : ByteArray)) ++ t185)) else (none))) else (none)) else (none))) else (none)) else (none))) else (none)) else (none))) else (none))) else (some (⟨#[]⟩ : ByteArray)))
def whirligigref01_Text.T4 : Bool × List (List Nat × List Nat) := (true, [([], []), ([0], [0]), ([1], [1]), ([2], [2]), ([], []), ([4], [4]), ([5], [5]), ([6, 2], [6]), ([3, 7], [3, 7]), ([8], [8]), ([], []), ([10], [10]), ([11], [11]), ([12, 7], [12]), ([9, 13], [9, 13]), ([14], [14]), ([], []), ([16], [16]), ([17, 13], [17]), ([15, 18], [15, 18]), ([19], [19]), ([], []), ([21], [21]), ([22, 18], [22]), ([20, 23], [20, 23]), ([24, 23, 0, 1, 2, 3, 4, 5, 6, 7, 8, 9, 10, 11, 12, 13, 14, 15, 16, 17, 18, 19, 20, 21, 22, 23, 24], [24])])
def whirligigref01_Text.B4 : List Nat := [0, 1, 3, 7, 0, 16, 48, 119, 255, 511, 0, 1024, 3072, 7415, 16383, 32767, 0, 65536, 212215, 524287, 1048575, 0, 2097152, 6765815, 16777215, 33554431]
theorem whirligigref01_Text.tab4 : rtab .any (opsOf Tryd.f10 4) = whirligigref01_Text.T4 := by kernel_rfl
theorem whirligigref01_Text.bits4 : waitsOk whirligigref01_Text.T4.2 whirligigref01_Text.B4 = true := by kernel_rfl
theorem k4499.b2e {W : World} {g : Nat} {v0 v1 : Value} {t : TypeId} (h : W.heap[g]? = some (.cells #[v0, v1] t (0, 0))) : W.cell? ⟨g, 0, none⟩ = some v0 ∧ W.cell? ⟨g, 1, none⟩ = some v1 :=
  ⟨(blk_cell h 0).trans rfl, (blk_cell h 1).trans rfl⟩
@[reducible] def k4499.S0 (g0 : Nat) (v0 v1 : Value) (w' : World) : Prop := w'.cell? ⟨g0, 0, none⟩ = some v0 ∧ w'.cell? ⟨g0, 1, none⟩ = some v1
set_option maxHeartbeats 8000000 in
set_option maxRecDepth 100000 in
theorem whirligigref01_Text.calls (k : Nat) (ac : Int) (ae : Int) (r : ByteArray) (w : World) (h : whirligigref01_Text.f k ac ae = some r) :
  Calls Tryd.prog 10 #[.agg #[.int .u32 ac, .int .i64 ae]] w fun e w' => e = .returned (.string r) ∧ Below w.heap.size w w' := by
 have hu24 := Tryd.underlying24
 have HB := Aside0.mk (Below.refl w.heap.size w)
 have H := h
 unfold whirligigref01_Text.f at H
 clear h
 replace H := Option.bind_eq_some_iff.mp H
 obtain ⟨t180, A20, H⟩ := H
 (try dsimp only at H)
 have A2 := Aside0.mk A20
 clear A20
 by_cases c3 : t180 = true
 ·subst c3
  have H1 := H
  rw [if_pos rfl] at H1
  clear H
  have H := H1
  clear H1
  replace H := Option.bind_eq_some_iff.mp H
  obtain ⟨t181, A40, H⟩ := H
  (try dsimp only at H)
  have A4 := Aside0.mk A40
  clear A40
  by_cases c5 : t181.size + 1 ≤ 9223372036854775807
  ·rw [if_pos c5] at H
   have c5b0 := eq_true c5
   have c5b1 : decide (t181.size + 1 ≤ 9223372036854775807) = true := decide_eq_true c5
   try have c5b2 : (9223372036854775807 < t181.size + 1) = False := eq_false (Nat.not_lt.2 c5)
   replace H := Option.bind_eq_some_iff.mp H
   obtain ⟨t182, A60, H⟩ := H
   (try dsimp only at H)
   have A6 := Aside0.mk A60
   clear A60
   by_cases c7 : (t181 ++ (⟨#[46]⟩ : ByteArray)).size + t182.size ≤ 9223372036854775807
   ·rw [if_pos c7] at H
    have c7b0 := eq_true c7
    have c7b1 : decide ((t181 ++ (⟨#[46]⟩ : ByteArray)).size + t182.size ≤ 9223372036854775807) = true := decide_eq_true c7
    try have c7b2 : (9223372036854775807 < (t181 ++ (⟨#[46]⟩ : ByteArray)).size + t182.size) = False := eq_false (Nat.not_lt.2 c7)
    try have c7b3 : (9223372036854775807 < t181.size + 1 + t182.size) = False := eq_false (Nat.not_lt.2 (by have h_ := c7; simp only [ByteArray.size_append] at h_; exact h_))
    by_cases c8 : ((t181 ++ (⟨#[46]⟩ : ByteArray)) ++ t182).size + 1 ≤ 9223372036854775807
    ·rw [if_pos c8] at H
     have c8b0 := eq_true c8
     have c8b1 : decide (((t181 ++ (⟨#[46]⟩ : ByteArray)) ++ t182).size + 1 ≤ 9223372036854775807) = true := decide_eq_true c8
     try have c8b2 : (9223372036854775807 < ((t181 ++ (⟨#[46]⟩ : ByteArray)) ++ t182).size + 1) = False := eq_false (Nat.not_lt.2 c8)
     try have c8b3 : (9223372036854775807 < t181.size + 1 + t182.size + 1) = False := eq_false (Nat.not_lt.2 (by have h_ := c8; simp only [ByteArray.size_append] at h_; exact h_))
     replace H := Option.bind_eq_some_iff.mp H
     obtain ⟨t183, A90, H⟩ := H
     (try dsimp only at H)
     have A9 := Aside0.mk A90
     clear A90
     by_cases c10 : (((t181 ++ (⟨#[46]⟩ : ByteArray)) ++ t182) ++ (⟨#[46]⟩ : ByteArray)).size + t183.size ≤ 9223372036854775807
     ·rw [if_pos c10] at H
      have c10b0 := eq_true c10
      have c10b1 : decide ((((t181 ++ (⟨#[46]⟩ : ByteArray)) ++ t182) ++ (⟨#[46]⟩ : ByteArray)).size + t183.size ≤ 9223372036854775807) = true := decide_eq_true c10
      try have c10b2 : (9223372036854775807 < (((t181 ++ (⟨#[46]⟩ : ByteArray)) ++ t182) ++ (⟨#[46]⟩ : ByteArray)).size + t183.size) = False := eq_false (Nat.not_lt.2 c10)
      try have c10b3 : (9223372036854775807 < t181.size + 1 + t182.size + 1 + t183.size) = False := eq_false (Nat.not_lt.2 (by have h_ := c10; simp only [ByteArray.size_append] at h_; exact h_))
      by_cases c11 : ((((t181 ++ (⟨#[46]⟩ : ByteArray)) ++ t182) ++ (⟨#[46]⟩ : ByteArray)) ++ t183).size + 1 ≤ 9223372036854775807
      ·rw [if_pos c11] at H
       have c11b0 := eq_true c11
       have c11b1 : decide (((((t181 ++ (⟨#[46]⟩ : ByteArray)) ++ t182) ++ (⟨#[46]⟩ : ByteArray)) ++ t183).size + 1 ≤ 9223372036854775807) = true := decide_eq_true c11
       try have c11b2 : (9223372036854775807 < ((((t181 ++ (⟨#[46]⟩ : ByteArray)) ++ t182) ++ (⟨#[46]⟩ : ByteArray)) ++ t183).size + 1) = False := eq_false (Nat.not_lt.2 c11)
       try have c11b3 : (9223372036854775807 < t181.size + 1 + t182.size + 1 + t183.size + 1) = False := eq_false (Nat.not_lt.2 (by have h_ := c11; simp only [ByteArray.size_append] at h_; exact h_))
       replace H := Option.bind_eq_some_iff.mp H
       obtain ⟨t184, A120, H⟩ := H
       (try dsimp only at H)
       have A12 := Aside0.mk A120
       clear A120
       by_cases c13 : (((((t181 ++ (⟨#[46]⟩ : ByteArray)) ++ t182) ++ (⟨#[46]⟩ : ByteArray)) ++ t183) ++ (⟨#[46]⟩ : ByteArray)).size + t184.size ≤ 9223372036854775807
       ·rw [if_pos c13] at H
        have c13b0 := eq_true c13
        have c13b1 : decide ((((((t181 ++ (⟨#[46]⟩ : ByteArray)) ++ t182) ++ (⟨#[46]⟩ : ByteArray)) ++ t183) ++ (⟨#[46]⟩ : ByteArray)).size + t184.size ≤ 9223372036854775807) = true := decide_eq_true c13
        try have c13b2 : (9223372036854775807 < (((((t181 ++ (⟨#[46]⟩ : ByteArray)) ++ t182) ++ (⟨#[46]⟩ : ByteArray)) ++ t183) ++ (⟨#[46]⟩ : ByteArray)).size + t184.size) = False := eq_false (Nat.not_lt.2 c13)
        try have c13b3 : (9223372036854775807 < t181.size + 1 + t182.size + 1 + t183.size + 1 + t184.size) = False := eq_false (Nat.not_lt.2 (by have h_ := c13; simp only [ByteArray.size_append] at h_; exact h_))
        by_cases c14 : ((((((t181 ++ (⟨#[46]⟩ : ByteArray)) ++ t182) ++ (⟨#[46]⟩ : ByteArray)) ++ t183) ++ (⟨#[46]⟩ : ByteArray)) ++ t184).size + 1 ≤ 9223372036854775807
        ·rw [if_pos c14] at H
         have c14b0 := eq_true c14
         have c14b1 : decide (((((((t181 ++ (⟨#[46]⟩ : ByteArray)) ++ t182) ++ (⟨#[46]⟩ : ByteArray)) ++ t183) ++ (⟨#[46]⟩ : ByteArray)) ++ t184).size + 1 ≤ 9223372036854775807) = true := decide_eq_true c14
         try have c14b2 : (9223372036854775807 < ((((((t181 ++ (⟨#[46]⟩ : ByteArray)) ++ t182) ++ (⟨#[46]⟩ : ByteArray)) ++ t183) ++ (⟨#[46]⟩ : ByteArray)) ++ t184).size + 1) = False := eq_false (Nat.not_lt.2 c14)
         try have c14b3 : (9223372036854775807 < t181.size + 1 + t182.size + 1 + t183.size + 1 + t184.size + 1) = False := eq_false (Nat.not_lt.2 (by have h_ := c14; simp only [ByteArray.size_append] at h_; exact h_))
         replace H := Option.bind_eq_some_iff.mp H
         obtain ⟨t185, A150, H⟩ := H
         (try dsimp only at H)
         have A15 := Aside0.mk A150
         clear A150
         by_cases c16 : (((((((t181 ++ (⟨#[46]⟩ : ByteArray)) ++ t182) ++ (⟨#[46]⟩ : ByteArray)) ++ t183) ++ (⟨#[46]⟩ : ByteArray)) ++ t184) ++ (⟨#[47]⟩ : ByteArray)).size + t185.size ≤ 9223372036854775807
         ·rw [if_pos c16] at H
          have c16b0 := eq_true c16
          have c16b1 : decide ((((((((t181 ++ (⟨#[46]⟩ : ByteArray)) ++ t182) ++ (⟨#[46]⟩ : ByteArray)) ++ t183) ++ (⟨#[46]⟩ : ByteArray)) ++ t184) ++ (⟨#[47]⟩ : ByteArray)).size + t185.size ≤ 9223372036854775807) = true := decide_eq_true c16
          try have c16b2 : (9223372036854775807 < (((((((t181 ++ (⟨#[46]⟩ : ByteArray)) ++ t182) ++ (⟨#[46]⟩ : ByteArray)) ++ t183) ++ (⟨#[46]⟩ : ByteArray)) ++ t184) ++ (⟨#[47]⟩ : ByteArray)).size + t185.size) = False := eq_false (Nat.not_lt.2 c16)
          try have c16b3 : (9223372036854775807 < t181.size + 1 + t182.size + 1 + t183.size + 1 + t184.size + 1 + t185.size) = False := eq_false (Nat.not_lt.2 (by have h_ := c16; simp only [ByteArray.size_append] at h_; exact h_))
          obtain rfl := Option.some.inj H
          go_enter Tryd.func10, Tryd.ntmps10
          try go_wp2_with (first | ((with_reducible refine gate_dst (N := 1) rfl ?_); refine box_event ?hg (N := 1) ?hd (cs := #[.int .u32 ac, .int .i64 ae]) (t := 24) ?hr ?_; (case hd => rfl); (case hg => rfl); (case hr => first | (go_simp; done) | (go_simp; rfl)); intro ab hg w17 hbox hb; have n0_ := Aside0.mk (below_step (by repeat (first | (with_reducible first | exact HB.out | apply below_alloc | apply pw_below_drewN | apply below_drew1) | exact HB.out)) hb); have n1_ := Aside0.mk (hbox); have n2_ := Aside0.mk ((by rw [hg]; exact (below_size (by repeat (first | (with_reducible first | exact HB.out | apply below_alloc | apply pw_below_drewN | apply below_drew1) | exact HB.out))) : w.heap.size ≤ ab)); have n3_ := Aside0.mk ((by rw [hg]; exact (below_size (by repeat (first | (with_reducible first | exact HB.out | apply below_alloc | apply pw_below_drewN | apply below_drew1) | exact HB.out))) : w.heap.size ≤ ab)); clear HB; have HB := n0_; have aa := n1_; have GW179 := n2_; have ad := n3_; clear n0_ n1_ n2_ n3_; clear hb hbox hg; have hcz18_0 : w17.cell? ⟨ab, 0, none⟩ = some (.int .u32 ac) := (blk_cell aa.out 0).trans rfl; have hcz18_1 : w17.cell? ⟨ab, 1, none⟩ = some (.int .i64 ae) := (blk_cell aa.out 1).trans rfl; have hfz18_0 := blk_frozen aa.out 0; have hfz18_1 := blk_frozen aa.out 1) | ((with_reducible refine gate_callee (f := 8) rfl ?_); refine goesL_ (some 5) rfl rfl Tryd.func8 (by kernel_rfl) rfl #[.agg #[.int .u32 ac, .int .i64 ae]] rfl (by (try simp only [List.map_toArray, List.map_cons, List.map_nil]); first | done | rfl) ?_; (with_reducible refine (whirligigref01_May.calls k ac ae true _ A2.out).mono ?_); rintro e w19 ⟨rfl, hb⟩; refine ⟨_, rfl, ?_⟩; replace aa := Aside0.mk (blk_below (g := ab) (by (with_reducible repeat (first | refine blk_drewN ?_ _ | refine blk_drew ?_ | refine blk_alloc ?_ _)); exact aa.out) hb); replace HB := Aside0.mk (below_step (by repeat (first | (with_reducible first | exact HB.out | apply below_alloc | apply pw_below_drewN | apply below_drew1 | refine below_set ?_ ad.out) | exact HB.out)) hb); (try clear hb); (try clear hb2); (try clear hk); (try clear hi); have hcz20_0 : w19.cell? ⟨ab, 0, none⟩ = some (.int .u32 ac) := (blk_cell aa.out 0).trans rfl; have hcz20_1 : w19.cell? ⟨ab, 1, none⟩ = some (.int .i64 ae) := (blk_cell aa.out 1).trans rfl; have hfz20_0 := blk_frozen aa.out 0; have hfz20_1 := blk_frozen aa.out 1))
          have n0_ := Aside0.mk (blk_drew aa.out)
          have n1_ := Aside0.mk (below_drew1 HB.out)
          clear aa
          clear HB
          have aa := n0_
          have HB := n1_
          clear n0_ n1_
          refine start_ (n := 26) (S := k4499.S0 ab (.int .u32 ac) (.int .i64 ae)) (ds := []) #[false, false, false, false, false, false, false, false, false, false, false, false, false, false, false, false, false, false, false, false, false, false, false, false, false, false] (by kernel_rfl) rfl rfl (k4499.b2e aa.out) (fun hHeld => ?_); refine with_tabW whirligigref01_Text.tab4 whirligigref01_Text.bits4 (fun HT_ HW_ => ?_)
          generalize w19.drew = w21 at aa HB hHeld ⊢
          refine pure_ (i := 0) (N := some 10) (v := ?_) (a' := ?_) #[true, false, false, false, false, false, false, false, false, false, false, false, false, false, false, false, false, false, false, false, false, false, false, false, false, false] rfl rfl (any_of HT_.out (by kernel_rfl)) (fun _ _ _ h => h) (Or.inl ⟨by rfl, ?_⟩) ?_ ?_
          rotate_left
          ·intro w'
           go_simp
           with_reducible rfl
          rotate_left
          ·simp only [Act.put, List.setIfInBounds_toArray, List.set_cons_zero, List.set_cons_succ, i64_w]
           rfl
          refine pure_ (i := 1) (N := some 11) (v := ?_) (a' := ?_) #[true, true, false, false, false, false, false, false, false, false, false, false, false, false, false, false, false, false, false, false, false, false, false, false, false, false] rfl rfl (any_of HT_.out (by kernel_rfl)) (fun _ _ _ h => h) (Or.inl ⟨by rfl, ?_⟩) ?_ ?_
          rotate_left
          ·intro w'
           go_simp
           with_reducible rfl
          rotate_left
          ·simp only [Act.put, List.setIfInBounds_toArray, List.set_cons_zero, List.set_cons_succ, i64_w]
           rfl
          refine pure_ (i := 4) (N := some 14) (v := ?_) (a' := ?_) #[true, true, false, false, true, false, false, false, false, false, false, false, false, false, false, false, false, false, false, false, false, false, false, false, false, false] rfl rfl (any_of HT_.out (by kernel_rfl)) (fun _ _ _ h => h) (Or.inl ⟨by rfl, ?_⟩) ?_ ?_
          rotate_left
          ·intro w'
           go_simp
           with_reducible rfl
          rotate_left
          ·simp only [Act.put, List.setIfInBounds_toArray, List.set_cons_zero, List.set_cons_succ, i64_w]
           rfl
          refine pure_ (i := 5) (N := some 15) (v := ?_) (a' := ?_) #[true, true, false, false, true, true, false, false, false, false, false, false, false, false, false, false, false, false, false, false, false, false, false, false, false, false] rfl rfl (any_of HT_.out (by kernel_rfl)) (fun _ _ _ h => h) (Or.inl ⟨by rfl, ?_⟩) ?_ ?_
          rotate_left
          ·intro w'
           go_simp
           with_reducible rfl
          rotate_left
          ·simp only [Act.put, List.setIfInBounds_toArray, List.set_cons_zero, List.set_cons_succ, i64_w]
           rfl
          refine pure_ (i := 6) (N := some 16) (v := ?_) (a' := ?_) #[true, true, false, false, true, true, true, false, false, false, false, false, false, false, false, false, false, false, false, false, false, false, false, false, false, false] rfl rfl (any_of HT_.out (by kernel_rfl)) (fun _ _ _ h => h) (Or.inl ⟨by rfl, ?_⟩) ?_ ?_
          rotate_left
          ·intro w'
           go_simp
           with_reducible rfl
          rotate_left
          ·simp only [Act.put, List.setIfInBounds_toArray, List.set_cons_zero, List.set_cons_succ, i64_w]
           rfl
          refine pure_ (i := 10) (N := some 20) (v := ?_) (a' := ?_) #[true, true, false, false, true, true, true, false, false, false, true, false, false, false, false, false, false, false, false, false, false, false, false, false, false, false] rfl rfl (any_of HT_.out (by kernel_rfl)) (fun _ _ _ h => h) (Or.inl ⟨by rfl, ?_⟩) ?_ ?_
          rotate_left
          ·intro w'
           go_simp
           with_reducible rfl
          rotate_left
          ·simp only [Act.put, List.setIfInBounds_toArray, List.set_cons_zero, List.set_cons_succ, i64_w]
           rfl
          refine pure_ (i := 11) (N := some 21) (v := ?_) (a' := ?_) #[true, true, false, false, true, true, true, false, false, false, true, true, false, false, false, false, false, false, false, false, false, false, false, false, false, false] rfl rfl (any_of HT_.out (by kernel_rfl)) (fun _ _ _ h => h) (Or.inl ⟨by rfl, ?_⟩) ?_ ?_
          rotate_left
          ·intro w'
           go_simp
           with_reducible rfl
          rotate_left
          ·simp only [Act.put, List.setIfInBounds_toArray, List.set_cons_zero, List.set_cons_succ, i64_w]
           rfl
          refine pure_ (i := 12) (N := some 22) (v := ?_) (a' := ?_) #[true, true, false, false, true, true, true, false, false, false, true, true, true, false, false, false, false, false, false, false, false, false, false, false, false, false] rfl rfl (any_of HT_.out (by kernel_rfl)) (fun _ _ _ h => h) (Or.inl ⟨by rfl, ?_⟩) ?_ ?_
          rotate_left
          ·intro w'
           go_simp
           with_reducible rfl
          rotate_left
          ·simp only [Act.put, List.setIfInBounds_toArray, List.set_cons_zero, List.set_cons_succ, i64_w]
           rfl
          refine pure_ (i := 16) (N := some 26) (v := ?_) (a' := ?_) #[true, true, false, false, true, true, true, false, false, false, true, true, true, false, false, false, true, false, false, false, false, false, false, false, false, false] rfl rfl (any_of HT_.out (by kernel_rfl)) (fun _ _ _ h => h) (Or.inl ⟨by rfl, ?_⟩) ?_ ?_
          rotate_left
          ·intro w'
           go_simp
           with_reducible rfl
          rotate_left
          ·simp only [Act.put, List.setIfInBounds_toArray, List.set_cons_zero, List.set_cons_succ, i64_w]
           rfl
          refine pure_ (i := 17) (N := some 27) (v := ?_) (a' := ?_) #[true, true, false, false, true, true, true, false, false, false, true, true, true, false, false, false, true, true, false, false, false, false, false, false, false, false] rfl rfl (any_of HT_.out (by kernel_rfl)) (fun _ _ _ h => h) (Or.inl ⟨by rfl, ?_⟩) ?_ ?_
          rotate_left
          ·intro w'
           go_simp
           with_reducible rfl
          rotate_left
          ·simp only [Act.put, List.setIfInBounds_toArray, List.set_cons_zero, List.set_cons_succ, i64_w]
           rfl
          refine pure_ (i := 21) (N := some 31) (v := ?_) (a' := ?_) #[true, true, false, false, true, true, true, false, false, false, true, true, true, false, false, false, true, true, false, false, false, true, false, false, false, false] rfl rfl (any_of HT_.out (by kernel_rfl)) (fun _ _ _ h => h) (Or.inl ⟨by rfl, ?_⟩) ?_ ?_
          rotate_left
          ·intro w'
           go_simp
           with_reducible rfl
          rotate_left
          ·simp only [Act.put, List.setIfInBounds_toArray, List.set_cons_zero, List.set_cons_succ, i64_w]
           rfl
          refine take_ (i := 22) (N := some 32) (v := ?_) (a' := ?_) #[true, true, false, false, true, true, true, false, false, false, true, true, true, false, false, false, true, true, false, false, false, true, true, false, false, false] rfl rfl (take_ofW HT_.out HW_.out (by kernel_rfl)) (fun _ _ _ h => h) (Or.inl ⟨by rfl, ?_⟩) hHeld ?_ ?_
          rotate_left
          ·rintro w' ⟨s0, s1⟩
           go_simp
           with_reducible rfl
          rotate_left
          ·simp only [Act.put, List.setIfInBounds_toArray, List.set_cons_zero, List.set_cons_succ, i64_w]
           rfl
          refine one_ (i := 2) (N := some 12) #[true, true, true, false, true, true, true, false, false, false, true, true, true, false, false, false, true, true, false, false, false, true, true, false, false, false] rfl rfl (one_of HT_.out (by kernel_rfl)) (by decide) (fun K hK => ?_)
          refine goes_ Tryd.func21 (by kernel_rfl) rfl #[.int .i64 (wrap64 (Int.tdiv (wrap64 (ac)) 16777216))] (by rfl) rfl rfl (by (try simp only [List.map_toArray, List.map_cons, List.map_nil]); first | done | rfl) ?_
          with_reducible refine (whirligigref01_Number.calls k (wrap64 (Int.tdiv (wrap64 (ac)) 16777216)) t181 _ A4.out).mono ?_
          rintro e w22 ⟨rfl, hb⟩
          refine ⟨_, rfl, ?_⟩
          replace aa := Aside0.mk (blk_below (g := ab) (by (with_reducible repeat (first | refine blk_drewN ?_ _ | refine blk_drew ?_ | refine blk_alloc ?_ _)); exact aa.out) hb)
          replace HB := Aside0.mk (below_step (by repeat (first | (with_reducible first | exact HB.out | apply below_alloc | apply pw_below_drewN | apply below_drew1 | refine below_set ?_ ad.out) | exact HB.out)) hb)
          (try clear hb)
          (try clear hb2)
          (try clear hk)
          (try clear hi)
          refine hK.out _ _ (k4499.b2e aa.out) (fun hHeld => ?_)
          clear hK K
          refine norm_ (a' := ?_) ?_ ?_
          rotate_left
          ·show Act.put _ (some 12) _ = _
           simp only [Act.put, List.setIfInBounds_toArray, List.set_cons_zero, List.set_cons_succ, i64_w]
           rfl
          refine pure_ (i := 3) (N := some 13) (v := ?_) (a' := ?_) #[true, true, true, true, true, true, true, false, false, false, true, true, true, false, false, false, true, true, false, false, false, true, true, false, false, false] rfl rfl (any_of HT_.out (by kernel_rfl)) (fun _ _ _ h => h) (Or.inl ⟨by rfl, ?_⟩) ?_ ?_
          rotate_left
          ·intro w'
           go_simp
           with_reducible rfl
          rotate_left
          ·simp only [Act.put, List.setIfInBounds_toArray, List.set_cons_zero, List.set_cons_succ, i64_w]
           rfl
          refine one_ (i := 7) (N := some 17) #[true, true, true, true, true, true, true, true, false, false, true, true, true, false, false, false, true, true, false, false, false, true, true, false, false, false] rfl rfl (one_of HT_.out (by kernel_rfl)) (by decide) (fun K hK => ?_)
          refine goes_ Tryd.func21 (by kernel_rfl) rfl #[.int .i64 (Int.tmod (wrap64 (Int.tdiv (wrap64 (ac)) 65536)) 256)] (by rfl) rfl rfl (by (try simp only [List.map_toArray, List.map_cons, List.map_nil]); first | done | rfl) ?_
          with_reducible refine (whirligigref01_Number.calls k (Int.tmod (wrap64 (Int.tdiv (wrap64 (ac)) 65536)) 256) t182 _ A6.out).mono ?_
          rintro e w23 ⟨rfl, hb⟩
          refine ⟨_, rfl, ?_⟩
          replace aa := Aside0.mk (blk_below (g := ab) (by (with_reducible repeat (first | refine blk_drewN ?_ _ | refine blk_drew ?_ | refine blk_alloc ?_ _)); exact aa.out) hb)
          replace HB := Aside0.mk (below_step (by repeat (first | (with_reducible first | exact HB.out | apply below_alloc | apply pw_below_drewN | apply below_drew1 | refine below_set ?_ ad.out) | exact HB.out)) hb)
          (try clear hb)
          (try clear hb2)
          (try clear hk)
          (try clear hi)
          refine hK.out _ _ (k4499.b2e aa.out) (fun hHeld => ?_)
          clear hK K
          refine norm_ (a' := ?_) ?_ ?_
          rotate_left
          ·show Act.put _ (some 17) _ = _
           simp only [Act.put, List.setIfInBounds_toArray, List.set_cons_zero, List.set_cons_succ, i64_w]
           rfl
          refine pure_ (i := 8) (N := some 18) (v := ?_) (a' := ?_) #[true, true, true, true, true, true, true, true, true, false, true, true, true, false, false, false, true, true, false, false, false, true, true, false, false, false] rfl rfl (any_of HT_.out (by kernel_rfl)) (fun _ _ _ h => h) (Or.inl ⟨by rfl, ?_⟩) ?_ ?_
          rotate_left
          ·intro w'
           go_simp
           with_reducible rfl
          rotate_left
          ·simp only [Act.put, List.setIfInBounds_toArray, List.set_cons_zero, List.set_cons_succ, i64_w]
           rfl
          refine pure_ (i := 9) (N := some 19) (v := ?_) (a' := ?_) #[true, true, true, true, true, true, true, true, true, true, true, true, true, false, false, false, true, true, false, false, false, true, true, false, false, false] rfl rfl (any_of HT_.out (by kernel_rfl)) (fun _ _ _ h => h) (Or.inl ⟨by rfl, ?_⟩) ?_ ?_
          rotate_left
          ·intro w'
           go_simp
           with_reducible rfl
          rotate_left
          ·simp only [Act.put, List.setIfInBounds_toArray, List.set_cons_zero, List.set_cons_succ, i64_w]
           rfl
          refine one_ (i := 13) (N := some 23) #[true, true, true, true, true, true, true, true, true, true, true, true, true, true, false, false, true, true, false, false, false, true, true, false, false, false] rfl rfl (one_of HT_.out (by kernel_rfl)) (by decide) (fun K hK => ?_)
          refine goes_ Tryd.func21 (by kernel_rfl) rfl #[.int .i64 (Int.tmod (wrap64 (Int.tdiv (wrap64 (ac)) 256)) 256)] (by rfl) rfl rfl (by (try simp only [List.map_toArray, List.map_cons, List.map_nil]); first | done | rfl) ?_
          with_reducible refine (whirligigref01_Number.calls k (Int.tmod (wrap64 (Int.tdiv (wrap64 (ac)) 256)) 256) t183 _ A9.out).mono ?_
          rintro e w24 ⟨rfl, hb⟩
          refine ⟨_, rfl, ?_⟩
          replace aa := Aside0.mk (blk_below (g := ab) (by (with_reducible repeat (first | refine blk_drewN ?_ _ | refine blk_drew ?_ | refine blk_alloc ?_ _)); exact aa.out) hb)
          replace HB := Aside0.mk (below_step (by repeat (first | (with_reducible first | exact HB.out | apply below_alloc | apply pw_below_drewN | apply below_drew1 | refine below_set ?_ ad.out) | exact HB.out)) hb)
          (try clear hb)
          (try clear hb2)
          (try clear hk)
          (try clear hi)
          refine hK.out _ _ (k4499.b2e aa.out) (fun hHeld => ?_)
          clear hK K
          refine norm_ (a' := ?_) ?_ ?_
          rotate_left
          ·show Act.put _ (some 23) _ = _
           simp only [Act.put, List.setIfInBounds_toArray, List.set_cons_zero, List.set_cons_succ, i64_w]
           rfl
          refine pure_ (i := 14) (N := some 24) (v := ?_) (a' := ?_) #[true, true, true, true, true, true, true, true, true, true, true, true, true, true, true, false, true, true, false, false, false, true, true, false, false, false] rfl rfl (any_of HT_.out (by kernel_rfl)) (fun _ _ _ h => h) (Or.inl ⟨by rfl, ?_⟩) ?_ ?_
          rotate_left
          ·intro w'
           go_simp
           with_reducible rfl
          rotate_left
          ·simp only [Act.put, List.setIfInBounds_toArray, List.set_cons_zero, List.set_cons_succ, i64_w]
           rfl
          refine pure_ (i := 15) (N := some 25) (v := ?_) (a' := ?_) #[true, true, true, true, true, true, true, true, true, true, true, true, true, true, true, true, true, true, false, false, false, true, true, false, false, false] rfl rfl (any_of HT_.out (by kernel_rfl)) (fun _ _ _ h => h) (Or.inl ⟨by rfl, ?_⟩) ?_ ?_
          rotate_left
          ·intro w'
           go_simp
           with_reducible rfl
          rotate_left
          ·simp only [Act.put, List.setIfInBounds_toArray, List.set_cons_zero, List.set_cons_succ, i64_w]
           rfl
          refine one_ (i := 18) (N := some 28) #[true, true, true, true, true, true, true, true, true, true, true, true, true, true, true, true, true, true, true, false, false, true, true, false, false, false] rfl rfl (one_of HT_.out (by kernel_rfl)) (by decide) (fun K hK => ?_)
          refine goes_ Tryd.func21 (by kernel_rfl) rfl #[.int .i64 (Int.tmod (wrap64 (ac)) 256)] (by rfl) rfl rfl (by (try simp only [List.map_toArray, List.map_cons, List.map_nil]); first | done | rfl) ?_
          with_reducible refine (whirligigref01_Number.calls k (Int.tmod (wrap64 (ac)) 256) t184 _ A12.out).mono ?_
          rintro e w25 ⟨rfl, hb⟩
          refine ⟨_, rfl, ?_⟩
          replace aa := Aside0.mk (blk_below (g := ab) (by (with_reducible repeat (first | refine blk_drewN ?_ _ | refine blk_drew ?_ | refine blk_alloc ?_ _)); exact aa.out) hb)
          replace HB := Aside0.mk (below_step (by repeat (first | (with_reducible first | exact HB.out | apply below_alloc | apply pw_below_drewN | apply below_drew1 | refine below_set ?_ ad.out) | exact HB.out)) hb)
          (try clear hb)
          (try clear hb2)
          (try clear hk)
          (try clear hi)
          refine hK.out _ _ (k4499.b2e aa.out) (fun hHeld => ?_)
          clear hK K
          refine norm_ (a' := ?_) ?_ ?_
          rotate_left
          ·show Act.put _ (some 28) _ = _
           simp only [Act.put, List.setIfInBounds_toArray, List.set_cons_zero, List.set_cons_succ, i64_w]
           rfl
          refine pure_ (i := 19) (N := some 29) (v := ?_) (a' := ?_) #[true, true, true, true, true, true, true, true, true, true, true, true, true, true, true, true, true, true, true, true, false, true, true, false, false, false] rfl rfl (any_of HT_.out (by kernel_rfl)) (fun _ _ _ h => h) (Or.inl ⟨by rfl, ?_⟩) ?_ ?_
          rotate_left
          ·intro w'
           go_simp
           with_reducible rfl
          rotate_left
          ·simp only [Act.put, List.setIfInBounds_toArray, List.set_cons_zero, List.set_cons_succ, i64_w]
           rfl
          refine pure_ (i := 20) (N := some 30) (v := ?_) (a' := ?_) #[true, true, true, true, true, true, true, true, true, true, true, true, true, true, true, true, true, true, true, true, true, true, true, false, false, false] rfl rfl (any_of HT_.out (by kernel_rfl)) (fun _ _ _ h => h) (Or.inl ⟨by rfl, ?_⟩) ?_ ?_
          rotate_left
          ·intro w'
           go_simp
           with_reducible rfl
          rotate_left
          ·simp only [Act.put, List.setIfInBounds_toArray, List.set_cons_zero, List.set_cons_succ, i64_w]
           rfl
          refine one_ (i := 23) (N := some 33) #[true, true, true, true, true, true, true, true, true, true, true, true, true, true, true, true, true, true, true, true, true, true, true, true, false, false] rfl rfl (one_of HT_.out (by kernel_rfl)) (by decide) (fun K hK => ?_)
          refine goes_ Tryd.func21 (by kernel_rfl) rfl #[.int .i64 ae] (by rfl) rfl rfl (by (try simp only [List.map_toArray, List.map_cons, List.map_nil]); first | done | rfl) ?_
          with_reducible refine (whirligigref01_Number.calls k ae t185 _ A15.out).mono ?_
          rintro e w26 ⟨rfl, hb⟩
          refine ⟨_, rfl, ?_⟩
          replace aa := Aside0.mk (blk_below (g := ab) (by (with_reducible repeat (first | refine blk_drewN ?_ _ | refine blk_drew ?_ | refine blk_alloc ?_ _)); exact aa.out) hb)
          replace HB := Aside0.mk (below_step (by repeat (first | (with_reducible first | exact HB.out | apply below_alloc | apply pw_below_drewN | apply below_drew1 | refine below_set ?_ ad.out) | exact HB.out)) hb)
          (try clear hb)
          (try clear hb2)
          (try clear hk)
          (try clear hi)
          refine hK.out _ _ (k4499.b2e aa.out) (fun hHeld => ?_)
          clear hK K
          refine norm_ (a' := ?_) ?_ ?_
          rotate_left
          ·show Act.put _ (some 33) _ = _
           simp only [Act.put, List.setIfInBounds_toArray, List.set_cons_zero, List.set_cons_succ, i64_w]
           rfl
          refine pure_ (i := 24) (N := some 34) (v := ?_) (a' := ?_) #[true, true, true, true, true, true, true, true, true, true, true, true, true, true, true, true, true, true, true, true, true, true, true, true, true, false] rfl rfl (any_of HT_.out (by kernel_rfl)) (fun _ _ _ h => h) (Or.inl ⟨by rfl, ?_⟩) ?_ ?_
          rotate_left
          ·intro w'
           go_simp
           with_reducible rfl
          rotate_left
          ·simp only [Act.put, List.setIfInBounds_toArray, List.set_cons_zero, List.set_cons_succ, i64_w]
           rfl
          refine pure_ (i := 25) (N := some 2) (v := ?_) (a' := ?_) #[true, true, true, true, true, true, true, true, true, true, true, true, true, true, true, true, true, true, true, true, true, true, true, true, true, true] rfl rfl (any_of HT_.out (by kernel_rfl)) (fun _ _ _ h => h) (Or.inl ⟨by rfl, ?_⟩) ?_ ?_
          rotate_left
          ·intro w'
           go_simp
           with_reducible rfl
          rotate_left
          ·simp only [Act.put, List.setIfInBounds_toArray, List.set_cons_zero, List.set_cons_succ, i64_w]
           rfl
          refine done_ (done_of HT_.out (by kernel_rfl)) ?_
          try go_wp2
          go_ret
          exact ⟨by first | rfl | (simp [errW_none, errW_some] <;> rfl) | (simp [*, errW_none, errW_some] <;> rfl), by repeat (first | (with_reducible first | exact HB.out | apply below_alloc | apply pw_below_drewN | apply below_drew1 | refine below_set ?_ ad.out) | exact HB.out)⟩
         ·rw [if_neg c16] at H
          exact absurd H (by simp)
        ·rw [if_neg c14] at H
         exact absurd H (by simp)
       ·rw [if_neg c13] at H
        exact absurd H (by simp)
      ·rw [if_neg c11] at H
       exact absurd H (by simp)
     ·rw [if_neg c10] at H
      exact absurd H (by simp)
    ·rw [if_neg c8] at H
     exact absurd H (by simp)
   ·rw [if_neg c7] at H
    exact absurd H (by simp)
  ·rw [if_neg c5] at H
   exact absurd H (by simp)
 ·replace c3 := Bool.eq_false_iff.mpr c3
  subst c3
  have H1 : (some (⟨#[]⟩ : ByteArray)) = some r := by rw [if_neg (show ¬ (false = true) by decide)] at H; exact H
  clear H
  have H := H1
  clear H1
  obtain rfl := Option.some.inj H
  go_enter Tryd.func10, Tryd.ntmps10
  go_wp2_with (first | ((with_reducible refine gate_dst (N := 1) rfl ?_); refine box_event ?hg (N := 1) ?hd (cs := #[.int .u32 ac, .int .i64 ae]) (t := 24) ?hr ?_; (case hd => rfl); (case hg => rfl); (case hr => first | (go_simp; done) | (go_simp; rfl)); intro ab hg w27 hbox hb; have n0_ := Aside0.mk (below_step (by repeat (first | (with_reducible first | exact HB.out | apply below_alloc | apply pw_below_drewN | apply below_drew1) | exact HB.out)) hb); have n1_ := Aside0.mk (hbox); have n2_ := Aside0.mk ((by rw [hg]; exact (below_size (by repeat (first | (with_reducible first | exact HB.out | apply below_alloc | apply pw_below_drewN | apply below_drew1) | exact HB.out))) : w.heap.size ≤ ab)); have n3_ := Aside0.mk ((by rw [hg]; exact (below_size (by repeat (first | (with_reducible first | exact HB.out | apply below_alloc | apply pw_below_drewN | apply below_drew1) | exact HB.out))) : w.heap.size ≤ ab)); clear HB; have HB := n0_; have aa := n1_; have GW179 := n2_; have ad := n3_; clear n0_ n1_ n2_ n3_; clear hb hbox hg; have hcz28_0 : w27.cell? ⟨ab, 0, none⟩ = some (.int .u32 ac) := (blk_cell aa.out 0).trans rfl; have hcz28_1 : w27.cell? ⟨ab, 1, none⟩ = some (.int .i64 ae) := (blk_cell aa.out 1).trans rfl; have hfz28_0 := blk_frozen aa.out 0; have hfz28_1 := blk_frozen aa.out 1) | ((with_reducible refine gate_callee (f := 8) rfl ?_); refine goesL_ (some 5) rfl rfl Tryd.func8 (by kernel_rfl) rfl #[.agg #[.int .u32 ac, .int .i64 ae]] rfl (by (try simp only [List.map_toArray, List.map_cons, List.map_nil]); first | done | rfl) ?_; (with_reducible refine (whirligigref01_May.calls k ac ae false _ A2.out).mono ?_); rintro e w29 ⟨rfl, hb⟩; refine ⟨_, rfl, ?_⟩; replace aa := Aside0.mk (blk_below (g := ab) (by (with_reducible repeat (first | refine blk_drewN ?_ _ | refine blk_drew ?_ | refine blk_alloc ?_ _)); exact aa.out) hb); replace HB := Aside0.mk (below_step (by repeat (first | (with_reducible first | exact HB.out | apply below_alloc | apply pw_below_drewN | apply below_drew1 | refine below_set ?_ ad.out) | exact HB.out)) hb); (try clear hb); (try clear hb2); (try clear hk); (try clear hi)))
  go_ret
  exact ⟨by first | rfl | (simp [errW_none, errW_some] <;> rfl) | (simp [*, errW_none, errW_some] <;> rfl), by repeat (first | (with_reducible first | exact HB.out | apply below_alloc | apply pw_below_drewN | apply below_drew1 | refine below_set ?_ ad.out) | exact HB.out)⟩

end Go.Proofs.YtckffheolnmcnaaDoor.P

end
