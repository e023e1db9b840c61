/- comm.order once more: what it leaves is the world ahead by some draws, with new blocks behind it (what the sort asks of its comparator). -/
import Derived.Test.YtikjfonedddlpaaHid
import Derived.Test.YtikjfonedddlpaaKdW
import Derived.Sort.Grow
import Derived.Test.YtikjfonedddlpaaPx0
import Derived.Test.YtikjfonedddlpaaPx3
import Derived.Test.YtikjfonedddlpaaPx5
namespace Go.Proofs.Ytikjfonedddlpaa.P
open Go.RowKit Go.Proofs.YtikjfonedddlpaaW.PrintWords Go.Proofs.YtikjfonedddlpaaW.PrintLast Go.Proofs.YtikjfonedddlpaaW.PrintMore
set_option linter.unusedVariables false
set_option linter.unusedSimpArgs false

/-- draws, and new blocks behind -/
def Gr (w w' : World) : Prop := ∃ (q : Nat) (os : Array Obj), w' = Go.Sort.grow (w.drewN q) os
theorem Gr.refl (w : World) : Gr w w := ⟨0, #[], by simp [Go.Sort.grow, World.drewN]⟩
theorem Gr.drewN {w W : World} (h : Gr w W) (n : Nat) : Gr w (W.drewN n) := by
  obtain ⟨q, os, rfl⟩ := h
  exact ⟨q + n, os, by simp [Go.Sort.grow, World.drewN, Nat.add_assoc]⟩
theorem Gr.drew {w W : World} (h : Gr w W) : Gr w W.drew := Gr.drewN h 1
theorem Gr.alloc {w W : World} (h : Gr w W) (o : Obj) : Gr w (W.alloc o) := by
  obtain ⟨q, os, rfl⟩ := h
  exact ⟨q, os ++ #[o], by rw [Go.Sort.alloc_eq_grow, Go.Sort.grow_grow]⟩
theorem C_two (g : Nat) (x y : Int) (w : World) (c0 : w.cell? ⟨g, 0, none⟩ = some (.int .i64 x)) (c1 : w.cell? ⟨g, 1, none⟩ = some (.int .i64 y)) : Kd.C (Kd.int .i64) w (some ⟨g, 0, none⟩) [x, y].length [x, y] := by
  refine ⟨rfl, by simp [maxLen], fun _ => ⟨⟨g, 0, none⟩, rfl, ?_⟩⟩
  intro j z hz
  match j with
  | 0 => simp at hz; subst hz; exact ⟨[.int .i64 x], rfl, rfl, fun i u hu => by match i with | 0 => simp at hu; subst hu; exact c0 | i + 1 => simp at hu⟩
  | 1 => simp at hz; subst hz; exact ⟨[.int .i64 y], rfl, rfl, fun i u hu => by match i with | 0 => simp at hu; subst hu; exact c1 | i + 1 => simp at hu⟩
  | j + 2 => simp at hz
theorem or2_any (g : Nat) (x y : Int) (w : World) (c0 : w.cell? ⟨g, 0, none⟩ = some (.int .i64 x)) (c1 : w.cell? ⟨g, 1, none⟩ = some (.int .i64 y)) :
    Calls Try.prog 46 #[.slice (some ⟨g, 0, none⟩) 2 2] w fun e w' => e = .returned (.int .i64 (orI x y)) ∧ ∃ m, w' = w.drewN m :=
  (cmp_Or_int.calls 4 (some ⟨g, 0, none⟩) 2 [x, y] _ w (C_two g x y w c0 c1) (by simp) (orI_is x y)).mono fun e w' h => ⟨h.1, by obtain ⟨_, m, rfl⟩ := h; exact ⟨m, rfl⟩⟩
theorem cmp_any (a b : Int) (w : World) : Calls Try.prog 47 #[.int .i64 a, .int .i64 b] w fun e w' => e = .returned (.int .i64 (cmpI a b)) ∧ ∃ m, w' = w.drewN m :=
  (cmp_Compare_int.calls a b _ w (cmpI_is a b)).mono fun e w' h => ⟨h.1, by obtain ⟨_, m, rfl⟩ := h; exact ⟨m, rfl⟩⟩
set_option maxHeartbeats 1000000 in
set_option maxRecDepth 100000 in
theorem order_grow (x y : S23) (w : World) :
    Calls Try.prog 43 #[.agg #[.int .i64 x.f0, .int .i64 x.f1], .agg #[.int .i64 y.f0, .int .i64 y.f1]] w fun e w' => e = .returned (.int .i64 (ordC x y)) ∧ Gr w w' := by
  unfold ordC
  obtain ⟨a, n⟩ := x
  obtain ⟨b, m⟩ := y
  go_enter Try.func43, Try.ntmps43
  go_wp2_with fail
  obtain ⟨W, hW⟩ : ∃ W, W = (w.alloc (Obj.cells #[.int .i64 a, .int .i64 n] 23)).alloc (Obj.cells #[.int .i64 b, .int .i64 m] 23) := ⟨_, rfl⟩
  rw [← hW]
  have c0 : W.cell? ⟨w.heap.size, 0, none⟩ = some (.int .i64 a) := by rw [hW]; go_simp
  have c1 : W.cell? ⟨w.heap.size, 1, none⟩ = some (.int .i64 n) := by rw [hW]; go_simp
  have c2 : W.cell? ⟨w.heap.size + 1, 0, none⟩ = some (.int .i64 b) := by rw [hW]; go_simp
  have c3 : W.cell? ⟨w.heap.size + 1, 1, none⟩ = some (.int .i64 m) := by rw [hW]; go_simp
  have HG : Hid (Gr w W) := by
    unfold Hid; rw [hW]
    exact ((Gr.refl _).alloc _).alloc _
  have hsz : W.heap.size = w.heap.size + 2 := by rw [hW]; simp
  clear hW
  go_region_held3 (fun w' => w'.cell? ⟨w.heap.size, 0, none⟩ = some (.int .i64 a) ∧ w'.cell? ⟨w.heap.size, 1, none⟩ = some (.int .i64 n) ∧ w'.cell? ⟨w.heap.size + 1, 0, none⟩ = some (.int .i64 b) ∧ w'.cell? ⟨w.heap.size + 1, 1, none⟩ = some (.int .i64 m)) (go_keep)
    (first | (go_at_call 47; refine (cmp_any _ _ _).mono ?_; rintro e w' ⟨rfl, ⟨nd, rfl⟩⟩) | (go_at_call 46; refine (or2_any _ (cmpI a b) (cmpI n m) _ ?_ ?_).mono ?_; (go_simp); (go_simp); rintro e w' ⟨rfl, ⟨nd, rfl⟩⟩))
  all_goals
    go_wp2_with fail
    go_ret
    exact ⟨rfl, by repeat (first | exact HG.out | apply Gr.drewN | apply Gr.drew | apply Gr.alloc)⟩
end Go.Proofs.Ytikjfonedddlpaa.P
