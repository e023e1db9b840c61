/- slices.BinarySearchFunc over comm's communities by comm.order: whether one is there. -/
import Derived.Test.YtikjfonedddlpaaHasC
import Derived.Test.YtikjfonedddlpaaPSet
import Derived.Test.YtikjfonedddlpaaPx0
import Derived.Test.YtikjfonedddlpaaPx3
import Derived.Test.YtikjfonedddlpaaPx4
import Derived.Test.YtikjfonedddlpaaPx5
namespace Go.Proofs.Ytikjfonedddlpaa.P
open Go.RowKit Go.Proofs.YtikjfonedddlpaaW.PrintWords Go.Proofs.YtikjfonedddlpaaW.PrintLast Go.Proofs.YtikjfonedddlpaaW.PrintMore
set_option linter.unusedVariables false
set_option linter.unusedSimpArgs false
theorem ord_keep (x y : S23) (g o g2 : Nat) (W : World) (h0 : W.cell? ⟨g, o, none⟩ = some (.int .i64 x.f0)) (h1 : W.cell? ⟨g, o + 1, none⟩ = some (.int .i64 x.f1)) (h2 : W.cell? ⟨g2, 0, none⟩ = some (.int .i64 y.f0)) (h3 : W.cell? ⟨g2, 1, none⟩ = some (.int .i64 y.f1)) :
    Calls Try.prog 43 #[.agg #[.int .i64 x.f0, .int .i64 x.f1], .agg #[.int .i64 y.f0, .int .i64 y.f1]] W fun e w' => e = .returned (.int .i64 (ordC x y)) ∧ (w'.cell? ⟨g, o, none⟩ = some (.int .i64 x.f0) ∧ w'.cell? ⟨g, o + 1, none⟩ = some (.int .i64 x.f1) ∧ w'.cell? ⟨g2, 0, none⟩ = some (.int .i64 y.f0) ∧ w'.cell? ⟨g2, 1, none⟩ = some (.int .i64 y.f1)) ∧ Below W.heap.size W w' :=
  (comm_order.calls 4 x.f0 x.f1 y.f0 y.f1 _ W (ordC_is x y)).mono fun e w' h => ⟨h.1, ⟨pw_cell_below h.2 h0, pw_cell_below h.2 h1, pw_cell_below h.2 h2, pw_cell_below h.2 h3⟩, h.2⟩
/-- in order, each one once -/
def Srt (l : List S23) : Prop := ∀ (i j : Nat) x y, i < j → l[i]? = some x → l[j]? = some y → ordC x y < 0
def BsI (l : List S23) (c : S23) (i j : Int) : Prop := Srt l → (∀ (q : Nat) x, (q : Int) < i → l[q]? = some x → ordC x c < 0) ∧ (∀ (q : Nat) x, j ≤ q → l[q]? = some x → 0 ≤ ordC x c)
set_option maxHeartbeats 4000000 in
set_option maxRecDepth 100000 in
theorem bs_comm (A : Option Addr) (cap : Nat) (l : List S23) (c : S23) (w : World) (hr : Kd.C k23 w A l.length l) (hlm : l.length ≤ 1000000) :
    Calls Try.prog 50 #[.slice A l.length cap, .agg #[.int .i64 c.f0, .int .i64 c.f1], .func (.func 43) #[] #[]] w fun e w' => ∃ (pos : Int) (b : Bool), e = .returned (.tuple #[.int .i64 pos, .bool b]) ∧ (Srt l → inC l c = b) ∧ Below w.heap.size w w' := by
  have HR := mkHid hr
  clear hr
  go_enter Try.func50, Try.ntmps50
  go_wp2_with fail
  go_loopg [9, 10] l.length (fun kq v9 v10 wr => ∃ (i j : Int), v9 = .int .i64 i ∧ v10 = .int .i64 j ∧ 0 ≤ i ∧ i ≤ j ∧ j ≤ l.length ∧ j - i ≤ kq ∧ wr.cell? ⟨w.heap.size, 0, none⟩ = some (.int .i64 c.f0) ∧ wr.cell? ⟨w.heap.size, 1, none⟩ = some (.int .i64 c.f1) ∧ w.heap.size < wr.heap.size ∧ Hid (BsI l c i j) ∧ Hid (Below w.heap.size w wr))
  case atStart =>
    refine ⟨0, l.length, rfl, rfl, by omega, by omega, by omega, by omega, by go_simp, by go_simp, by simp, fun _ => ⟨fun q x h => by omega, fun q x h hx => ?_⟩, below_alloc (Below.refl _ _) _⟩
    have := (List.getElem?_eq_some_iff.1 hx).1
    omega
  case round =>
    obtain ⟨i, j, rfl, rfl, i0, ij, jl, hk, c0, c1, hlt, HI, HB⟩ := hrel
    by_cases hij : i < j
    · have q1 : decide (i < j) = true := decide_eq_true hij
      go_wp2_with fail
      have h1 : i ≤ (i + j) / 2 := by omega
      have h2 : (i + j) / 2 < j := by omega
      generalize (i + j) / 2 = h at *
      have h0 : 0 ≤ h := by omega
      have hl : h < l.length := by omega
      obtain ⟨x, hx⟩ : ∃ x, l[h.toNat]? = some x := ⟨_, List.getElem?_eq_getElem (h := by omega)⟩
      obtain ⟨g, o, rfl, hg, hcells⟩ := C_at (Kd.C_below HR.out HB.out) (by decide) (by omega)
      obtain ⟨cs, _, hK, hcc⟩ := hcells _ _ hx
      have e := k23_open hK
      replace e : cs = [.int .i64 x.f0, .int .i64 x.f1] := e
      subst e
      have d0 : wr.cell? ⟨g, o + h.toNat * 2, none⟩ = some (.int .i64 x.f0) := hcc 0 _ rfl
      have d1 : wr.cell? ⟨g, o + h.toNat * 2 + 1, none⟩ = some (.int .i64 x.f1) := hcc 1 _ rfl
      have HX := mkHid hx
      have hw1 : IntKind.i64.wrap (h + 1) = h + 1 := IntWalk.i64_in _ (by omega)
      clear hcc hcells hK hx
      by_cases hlt0 : ordC x c < 0
      · have q2 : decide (ordC x c < 0) = true := decide_eq_true hlt0
        have HLT := mkHid hlt0
        clear hlt0
        go_region_held3 (fun w' => w'.cell? ⟨g, o + h.toNat * 2, none⟩ = some (.int .i64 x.f0) ∧ w'.cell? ⟨g, o + h.toNat * 2 + 1, none⟩ = some (.int .i64 x.f1) ∧ w'.cell? ⟨w.heap.size, 0, none⟩ = some (.int .i64 c.f0) ∧ w'.cell? ⟨w.heap.size, 1, none⟩ = some (.int .i64 c.f1)) (go_keep)
          (first | (go_at_call 43; refine (ord_keep x c g (o + h.toNat * 2) w.heap.size _ ?_ ?_ ?_ ?_).mono ?_; (go_simp); (go_simp); (go_simp); (go_simp); rintro e w' ⟨rfl, ⟨k0, k1, k2, k3⟩, hb⟩))
        all_goals
          have HB2 : Hid (Below w.heap.size w w') := below_step (by repeat (first | exact HB.out | apply pw_below_drewN | apply below_drew)) hb
          have hlt2 : w.heap.size < w'.heap.size := by have := HB2.out.size; have := hb.size; simp at this; omega
          clear hb d0 d1 c0 c1
          go_wp2_with fail
          go_roundg (gk - 1)
          case measure => omega
          case rel =>
            refine ⟨h + 1, j, rfl, rfl, by omega, by omega, by omega, by omega, k2, k3, hlt2, fun hs => ⟨fun q y hq hy => ?_, (HI.out hs).2⟩, HB2.out⟩
            by_cases e : q = h.toNat
            · subst e; rw [HX.out] at hy; cases hy; exact HLT.out
            · have h3 := hs q h.toNat y x (by omega) hy HX.out
              have h4 := HLT.out
              have h5 := ordC_ord.2 y x c (by omega) (by omega)
              rcases Int.lt_or_eq_of_le h5 with h6 | h6
              · exact h6
              · have := ordC_ord.zero (a := y) (b := x) (d := c) (by omega) (by omega) h6; omega
      · have q2 : decide (ordC x c < 0) = false := decide_eq_false hlt0
        have HLT := mkHid hlt0
        clear hlt0
        go_region_held3 (fun w' => w'.cell? ⟨g, o + h.toNat * 2, none⟩ = some (.int .i64 x.f0) ∧ w'.cell? ⟨g, o + h.toNat * 2 + 1, none⟩ = some (.int .i64 x.f1) ∧ w'.cell? ⟨w.heap.size, 0, none⟩ = some (.int .i64 c.f0) ∧ w'.cell? ⟨w.heap.size, 1, none⟩ = some (.int .i64 c.f1)) (go_keep)
          (first | (go_at_call 43; refine (ord_keep x c g (o + h.toNat * 2) w.heap.size _ ?_ ?_ ?_ ?_).mono ?_; (go_simp); (go_simp); (go_simp); (go_simp); rintro e w' ⟨rfl, ⟨k0, k1, k2, k3⟩, hb⟩))
        all_goals
          have HB2 : Hid (Below w.heap.size w w') := below_step (by repeat (first | exact HB.out | apply pw_below_drewN | apply below_drew)) hb
          have hlt2 : w.heap.size < w'.heap.size := by have := HB2.out.size; have := hb.size; simp at this; omega
          clear hb d0 d1 c0 c1
          go_wp2_with fail
          go_roundg (gk - 1)
          case measure => omega
          case rel =>
            refine ⟨i, h, rfl, rfl, by omega, by omega, by omega, by omega, k2, k3, hlt2, fun hs => ⟨(HI.out hs).1, fun q y hq hy => ?_⟩, HB2.out⟩
            by_cases e : q = h.toNat
            · subst e; rw [HX.out] at hy; cases hy; have := HLT.out; omega
            · have h3 := hs h.toNat q x y (by omega) HX.out hy
              have h4 := HLT.out
              by_cases h7 : ordC y c < 0
              · have h5 := ordC_ord.2 x y c (by omega) (by omega)
                have h6 : ordC x c = 0 := by omega
                have := ordC_ord.zero (a := x) (b := y) (d := c) (by omega) (by omega) h6; omega
              · omega
    · have q1 : decide (i < j) = false := decide_eq_false hij
      have hij2 : i = j := by omega
      by_cases hil : i < l.length
      · have q3 : decide (i < (l.length : Int)) = true := decide_eq_true hil
        obtain ⟨x, hx⟩ : ∃ x, l[i.toNat]? = some x := ⟨_, List.getElem?_eq_getElem (h := by omega)⟩
        obtain ⟨g, o, rfl, hg, hcells⟩ := C_at (Kd.C_below HR.out HB.out) (by decide) (by omega)
        obtain ⟨cs, _, hK, hcc⟩ := hcells _ _ hx
        have e := k23_open hK
        replace e : cs = [.int .i64 x.f0, .int .i64 x.f1] := e
        subst e
        have d0 : wr.cell? ⟨g, o + i.toNat * 2, none⟩ = some (.int .i64 x.f0) := hcc 0 _ rfl
        have d1 : wr.cell? ⟨g, o + i.toNat * 2 + 1, none⟩ = some (.int .i64 x.f1) := hcc 1 _ rfl
        have HX := mkHid hx
        clear hcc hcells hK hx
        have HJ := mkHid hij2
        clear hij2
        by_cases h0 : ordC x c = 0
        · have q2 : (ordC x c == 0) = true := by simp [h0]
          have H0 := mkHid h0
          clear h0
          go_wp2_with fail
          go_region_held3 (fun w' => w'.cell? ⟨g, o + i.toNat * 2, none⟩ = some (.int .i64 x.f0) ∧ w'.cell? ⟨g, o + i.toNat * 2 + 1, none⟩ = some (.int .i64 x.f1) ∧ w'.cell? ⟨w.heap.size, 0, none⟩ = some (.int .i64 c.f0) ∧ w'.cell? ⟨w.heap.size, 1, none⟩ = some (.int .i64 c.f1)) (go_keep)
            (first | (go_at_call 43; refine (ord_keep x c g (o + i.toNat * 2) w.heap.size _ ?_ ?_ ?_ ?_).mono ?_; (go_simp); (go_simp); (go_simp); (go_simp); rintro e w' ⟨rfl, ⟨k0, k1, k2, k3⟩, hb⟩))
          all_goals
            have HB2 : Hid (Below w.heap.size w w') := below_step (by repeat (first | exact HB.out | apply pw_below_drewN | apply below_drew)) hb
            clear hb d0 d1 c0 c1
            go_wp2_with fail
            go_ret2
            refine ⟨_, _, rfl, fun hs => ?_, HB2.out⟩
            have := (ordC_zero x c).1 H0.out
            subst this
            exact (inC_iff _ _).2 (List.mem_of_getElem? HX.out)
        · have q2 : (ordC x c == 0) = false := by simp [h0]
          have H0 := mkHid h0
          clear h0
          go_wp2_with fail
          go_region_held3 (fun w' => w'.cell? ⟨g, o + i.toNat * 2, none⟩ = some (.int .i64 x.f0) ∧ w'.cell? ⟨g, o + i.toNat * 2 + 1, none⟩ = some (.int .i64 x.f1) ∧ w'.cell? ⟨w.heap.size, 0, none⟩ = some (.int .i64 c.f0) ∧ w'.cell? ⟨w.heap.size, 1, none⟩ = some (.int .i64 c.f1)) (go_keep)
            (first | (go_at_call 43; refine (ord_keep x c g (o + i.toNat * 2) w.heap.size _ ?_ ?_ ?_ ?_).mono ?_; (go_simp); (go_simp); (go_simp); (go_simp); rintro e w' ⟨rfl, ⟨k0, k1, k2, k3⟩, hb⟩))
          all_goals
            have HB2 : Hid (Below w.heap.size w w') := below_step (by repeat (first | exact HB.out | apply pw_below_drewN | apply below_drew)) hb
            clear hb d0 d1 c0 c1
            go_wp2_with fail
            go_ret2
            refine ⟨_, _, rfl, fun hs => ?_, HB2.out⟩
            refine Bool.eq_false_iff.2 fun hin => ?_
            obtain ⟨q, hq⟩ := List.getElem?_of_mem ((inC_iff _ _).1 hin)
            obtain ⟨b1, b2⟩ := HI.out hs
            have hz : ordC c c = 0 := ordC_ord.self c
            have hj := HJ.out
            by_cases hq1 : (q : Int) < i
            · have := b1 q c hq1 hq; omega
            · by_cases hq2 : q = i.toNat
              · subst hq2
                rw [HX.out] at hq
                cases hq
                exact H0.out hz
              · have h3 := hs i.toNat q x c (by omega) HX.out hq
                have h4 := b2 i.toNat x (by omega) HX.out
                omega
      · have q3 : decide (i < (l.length : Int)) = false := decide_eq_false hil
        have HJ := mkHid hij2
        clear hij2
        go_wp2_with fail
        go_quiet (fail)
        go_wp2_with fail
        go_ret2
        refine ⟨_, _, rfl, fun hs => ?_, below_drewN' HB.out _⟩
        refine Bool.eq_false_iff.2 fun hin => ?_
        obtain ⟨q, hq⟩ := List.getElem?_of_mem ((inC_iff _ _).1 hin)
        obtain ⟨b1, b2⟩ := HI.out hs
        have hz : ordC c c = 0 := ordC_ord.self c
        have hql := (List.getElem?_eq_some_iff.1 hq).1
        have := b1 q c (by omega) hq
        omega
theorem set_sorted (k : Nat) (l : List S23) (h : comm_Set.f k l = some true) (hl : l.length ≤ 1000000) : Srt l := by
  have h1 := set_is k l h hl
  unfold setB at h1
  rw [Bool.and_eq_true] at h1
  exact (steps_lt l none h1.2).2
end Go.Proofs.Ytikjfonedddlpaa.P
