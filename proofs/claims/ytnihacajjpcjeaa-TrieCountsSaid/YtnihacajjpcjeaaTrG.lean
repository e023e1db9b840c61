/- Tries: New, Len, Get. -/
import Derived.Test.YtnihacajjpcjeaaTrF
import Derived.Test.YtnihacajjpcjeaaPx2
namespace Go.Proofs.Ytnihacajjpcjeaa
open Go.RowKit Go.Proofs.Ytnihacajjpcjeaa.P Go.Proofs.YtnihacajjpcjeaaW.PrintWords Go.Proofs.YtnihacajjpcjeaaW.PrintLast Go.Proofs.YtnihacajjpcjeaaW.PrintMore
set_option linter.unusedVariables false
set_option linter.unusedSimpArgs false

theorem new_at (w : World) : Tri kI (w.alloc (.cells #[.pointer none, .int .i64 0] 75)) w.heap.size (fun b => b = w.heap.size) 0 (fun _ => none) := by
  refine ⟨fun _ => false, fun _ => 0, ⟨⟨fun _ h => (by simp at h), fun _ _ h => (by simp at h), fun _ _ h => (by simp at h), fun _ h => (by simp at h)⟩, ?_, fun _ h => (by simp at h)⟩, fun _ h => (by simp at h), rfl, fun _ h => (by simp at h)⟩
  exact heap_alloc_new w _
set_option maxHeartbeats 4000000 in
set_option maxRecDepth 100000 in
theorem new_calls (w : World) : Calls Try.prog 29 #[] w fun e w' => e = .returned (.pointer (some ⟨w.heap.size, 0, none⟩)) ∧ w.heap.size < w'.heap.size ∧ Tri kI w' w.heap.size (fun b => b = w.heap.size) 0 (fun _ => none) ∧ Below w.heap.size w w' := by
  go_enter Try.func29, Try.ntmps29
  go_wp2_with fail
  go_ret
  exact ⟨rfl, by simp, new_at w, Below.alloc (Below.refl _ _) (Nat.le_refl _) _⟩

set_option maxHeartbeats 4000000 in
set_option maxRecDepth 100000 in
theorem len_calls (w : World) (bt : Nat) (own : Nat → Prop) (n : Int) (m : Way → Option Int) (hT : Tri kI w bt own n m) :
    Calls Try.prog 17 #[.pointer (some ⟨bt, 0, none⟩)] w fun e w' => e = .returned (.int .i64 n) ∧ w' = w := by
  obtain ⟨D, blk, h1, h2, h3, h4⟩ := hT
  have hc := h1.cell1
  clear h1 h2 h3 h4
  go_enter Try.func17, Try.ntmps17
  go_wp2_with fail
  go_ret
  exact ⟨rfl, rfl⟩

set_option maxHeartbeats 4000000 in
set_option maxRecDepth 100000 in
theorem get_calls (w : World) (bt : Nat) (own : Nat → Prop) (n : Int) (m : Way → Option Int) (hT : Tri kI w bt own n m) (a b : Int) (r : Bool) (h0 : 0 ≤ a) (h1 : a < 4294967296) (hM : addr_May.f a b = some r) :
    Calls Try.prog 23 #[.pointer (some ⟨bt, 0, none⟩), .agg #[.int .u32 a, .int .i64 b]] w fun e w' => e = .returned (.tuple #[.int .i64 ((look r m a b).getD 0), .bool (look r m a b).isSome]) ∧ Below w.heap.size w w' := by
  have HM := mkHid hM
  have HB0 : Hid (Below w.heap.size w (w.alloc (.cells #[.int .u32 a, .int .i64 b] 34))) := Below.alloc (Below.refl _ w) (Nat.le_refl _) _
  have HT := mkHid (hT.below HB0.out)
  clear hM hT
  cases r with
  | false =>
    have e0 : look false m a b = none := rfl
    rw [e0]
    go_enter Try.func23, Try.ntmps23
    go_wp2_with fail
    refine (find_not _ bt a b HM.out).mono ?_
    rintro e w1 ⟨rfl, hb⟩
    have HB := mkHid (below_step HB0.out hb)
    clear hb
    go_wp2_with fail
    go_ret2
    exact ⟨rfl, HB.out⟩
  | true =>
    obtain ⟨b0, b1⟩ := may_bits HM.out
    obtain ⟨N, rfl⟩ : ∃ N : Nat, b = N := ⟨b.toNat, by omega⟩
    have e0 : look true m a N = m (wayA a N) := rfl
    rw [e0]
    obtain ⟨D, blk, g1, g2, g3, g4⟩ := HT.out
    have G1 := mkHid g1
    clear g1
    cases hD : D (wayA a N) with
    | false =>
      have e1 : m (wayA a N) = none := by
        cases hm : m (wayA a N) with
        | none => rfl
        | some v => have := G1.out.nodes.sup (wayA a N) (by rw [hm]; rfl); rw [hD] at this; cases this
      rw [e1]
      go_enter Try.func23, Try.ntmps23
      go_wp2_with fail
      refine (find_calls _ bt n D m blk G1.out a N h0 h1 (by omega) HM.out).mono ?_
      rintro e w1 ⟨rfl, hb⟩
      have HB := mkHid (below_step HB0.out hb)
      rw [ptrT_none hD]
      clear hb
      go_wp2_with fail
      go_ret2
      exact ⟨rfl, HB.out⟩
    | true =>
      go_enter Try.func23, Try.ntmps23
      go_wp2_with fail
      refine (find_calls _ bt n D m blk G1.out a N h0 h1 (by omega) HM.out).mono ?_
      rintro e w1 ⟨rfl, hb⟩
      have HB := mkHid (below_step HB0.out hb)
      have hN := (G1.out.below hb).nodes
      have c2 := hN.is hD
      have c3 : w1.cell? ⟨blk (wayA a N), 3, none⟩ = some (.int .i64 ((m (wayA a N)).getD 0)) := hN.val hD
      rw [ptrT_some hD]
      clear hb hN
      cases hm : m (wayA a N) with
      | none =>
        rw [hm] at c2 c3
        have c4 : w1.cell? ⟨blk (wayA a N), 2, none⟩ = some (.bool false) := c2
        clear c2
        go_wp2_with fail
        go_ret2
        exact ⟨by rw [hm]; rfl, HB.out⟩
      | some v =>
        rw [hm] at c2 c3
        have c4 : w1.cell? ⟨blk (wayA a N), 2, none⟩ = some (.bool true) := c2
        have c5 : w1.cell? ⟨blk (wayA a N), 3, none⟩ = some (.int .i64 v) := c3
        clear c2 c3
        go_wp2_with fail
        go_ret2
        exact ⟨by rw [hm]; rfl, HB.out⟩
end Go.Proofs.Ytnihacajjpcjeaa
