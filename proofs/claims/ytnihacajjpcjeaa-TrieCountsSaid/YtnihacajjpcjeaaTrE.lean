/- Tries: Drop. -/
import Derived.Test.YtnihacajjpcjeaaTrD
import Derived.Test.YtnihacajjpcjeaaPx2
namespace Go.Proofs.Ytnihacajjpcjeaa
open Go.RowKit Go.Proofs.Ytnihacajjpcjeaa.P Go.Proofs.YtnihacajjpcjeaaW.PrintWords Go.Proofs.YtnihacajjpcjeaaW.PrintLast Go.Proofs.YtnihacajjpcjeaaW.PrintMore
set_option linter.unusedVariables false
set_option linter.unusedSimpArgs false

set_option maxHeartbeats 8000000 in
set_option maxRecDepth 100000 in
theorem drop_nil (w : World) (a b : Int) :
    Calls Try.prog 18 #[.pointer none, .agg #[.int .u32 a, .int .i64 b]] w fun e w' => e = .returned (.bool false) ∧ Below w.heap.size w w' := by
  have HB0 : Hid (Below w.heap.size w (w.alloc (.cells #[.int .u32 a, .int .i64 b] 34))) := Below.alloc (Below.refl _ w) (Nat.le_refl _) _
  go_enter Try.func18, Try.ntmps18
  go_wp2_with fail
  refine (find_nil _ a b).mono ?_
  rintro e w1 ⟨rfl, hb⟩
  have HB := mkHid (below_step HB0.out hb)
  clear hb
  go_wp2_with fail
  go_ret
  exact ⟨rfl, HB.out⟩
set_option maxHeartbeats 8000000 in
set_option maxRecDepth 100000 in
theorem drop_not (w : World) (bt : Nat) (a b : Int) (hM : addr_May.f a b = some false) :
    Calls Try.prog 18 #[.pointer (some ⟨bt, 0, none⟩), .agg #[.int .u32 a, .int .i64 b]] w fun e w' => e = .returned (.bool false) ∧ Below w.heap.size w w' := by
  have HM := mkHid hM
  have HB0 : Hid (Below w.heap.size w (w.alloc (.cells #[.int .u32 a, .int .i64 b] 34))) := Below.alloc (Below.refl _ w) (Nat.le_refl _) _
  clear hM
  go_enter Try.func18, Try.ntmps18
  go_wp2_with fail
  refine (find_not _ bt a b HM.out).mono ?_
  rintro e w1 ⟨rfl, hb⟩
  have HB := mkHid (below_step HB0.out hb)
  clear hb
  go_wp2_with fail
  go_ret
  exact ⟨rfl, HB.out⟩
set_option maxHeartbeats 8000000 in
set_option maxRecDepth 100000 in
theorem drop_none (w : World) (bt : Nat) (own : Nat → Prop) (n : Int) (m : Way → Option Int) (hT : Tri kI w bt own n m) (a : Int) (N : Nat) (h0 : 0 ≤ a) (h1 : a < 4294967296) (b1 : N ≤ 32) (hM : addr_May.f a N = some true) (hm : m (wayA a N) = none) :
    Calls Try.prog 18 #[.pointer (some ⟨bt, 0, none⟩), .agg #[.int .u32 a, .int .i64 N]] w fun e w' => e = .returned (.bool false) ∧ Below w.heap.size w w' := by
  have HM := mkHid hM
  have HB0 : Hid (Below w.heap.size w (w.alloc (.cells #[.int .u32 a, .int .i64 N] 34))) := Below.alloc (Below.refl _ w) (Nat.le_refl _) _
  obtain ⟨D, blk, g1, g2, g3, g4⟩ := hT
  have G1 := mkHid (g1.below HB0.out)
  clear hM g1 g2 g3 g4
  go_enter Try.func18, Try.ntmps18
  go_wp2_with fail
  refine (find_calls _ bt n D m blk G1.out a N h0 h1 b1 HM.out).mono ?_
  rintro e w1 ⟨rfl, hb⟩
  have HB := mkHid (below_step HB0.out hb)
  have HT := mkHid (G1.out.below hb)
  clear hb
  cases hD : D (wayA a N) with
  | false =>
    rw [ptrT_none hD]
    go_wp2_with fail
    go_ret
    exact ⟨rfl, HB.out⟩
  | true =>
    rw [ptrT_some hD]
    have c2 := HT.out.nodes.is hD
    rw [hm] at c2
    have c3 : w1.cell? ⟨blk (wayA a N), 2, none⟩ = some (.bool false) := c2
    clear c2
    go_wp2_with fail
    go_ret
    exact ⟨rfl, HB.out⟩
set_option maxHeartbeats 8000000 in
set_option maxRecDepth 100000 in
theorem drop_calls (w : World) (bt : Nat) (own : Nat → Prop) (n : Int) (m : Way → Option Int) (hT : Tri kI w bt own n m) (hS : ∀ b, own b → b < w.heap.size) (a : Int) (N : Nat) (h0 : 0 ≤ a) (h1 : a < 4294967296) (b1 : N ≤ 32) (n0 : 0 < n) (n1 : n < 1000000) (hM : addr_May.f a N = some true) (v : Int) (hm : m (wayA a N) = some v) :
    Calls Try.prog 18 #[.pointer (some ⟨bt, 0, none⟩), .agg #[.int .u32 a, .int .i64 N]] w fun e w' => e = .returned (.bool true) ∧ Tri kI w' bt own (n - 1) (putM m (wayA a N) none) ∧ Kb own w w' := by
  have HM := mkHid hM
  have HB0 : Hid (Below w.heap.size w (w.alloc (.cells #[.int .u32 a, .int .i64 N] 34))) := Below.alloc (Below.refl _ w) (Nat.le_refl _) _
  have hx0 : (w.alloc (.cells #[.int .u32 a, .int .i64 N] 34)).cell? ⟨w.heap.size, 0, none⟩ = some (.int .u32 a) := by go_simp
  have hx1 : (w.alloc (.cells #[.int .u32 a, .int .i64 N] 34)).cell? ⟨w.heap.size, 1, none⟩ = some (.int .i64 N) := by go_simp
  obtain ⟨D, blk, g1, g2, g3, g4⟩ := hT
  have G1 := mkHid (g1.below HB0.out)
  have G2 := mkHid g2
  have G3 : Hid (own bt ∧ bt < w.heap.size) := ⟨g3, blk_lt g1.root⟩
  have G4 := mkHid g4
  have HS := mkHid hS
  clear hM g1 g2 g3 g4 hS
  go_enter Try.func18, Try.ntmps18
  go_wp2_with fail
  refine (find_calls _ bt n D m blk G1.out a N h0 h1 b1 HM.out).mono ?_
  rintro e w1 ⟨rfl, hb⟩
  have HB := mkHid (below_step HB0.out hb)
  have hs : w.heap.size < w1.heap.size := by have := hb.size; simp at this; omega
  have q0 : w1.cell? ⟨w.heap.size, 0, none⟩ = some (.int .u32 a) := (hb.cell (by simp)).trans hx0
  have q1 : w1.cell? ⟨w.heap.size, 1, none⟩ = some (.int .i64 N) := (hb.cell (by simp)).trans hx1
  have HT := mkHid (G1.out.below hb)
  have hD : D (wayA a N) = true := HT.out.nodes.sup _ (by rw [hm]; rfl)
  rw [ptrT_some hD]
  have c2 := HT.out.nodes.is hD
  have c4 : w1.cell? ⟨blk (wayA a N), 3, none⟩ = some (.int .i64 ((m (wayA a N)).getD 0)) := HT.out.nodes.val hD
  rw [hm] at c2 c4
  have c3 : w1.cell? ⟨blk (wayA a N), 2, none⟩ = some (.bool true) := c2
  have f2 : w1.frozen? ⟨blk (wayA a N), 2, none⟩ = false := froz_blk (HT.out.nodes.lies _ hD) _
  have f3 : w1.frozen? ⟨blk (wayA a N), 3, none⟩ = false := froz_blk (HT.out.nodes.lies _ hD) _
  have HT3 : Hid (TrieAt kI ((w1.setCell ⟨blk (wayA a N), 2, none⟩ (.bool false)).setCell ⟨blk (wayA a N), 3, none⟩ (.int .i64 0)) bt n D (putM m (wayA a N) none) blk) := HT.out.write hD none
  have d1 := HT3.out.cell1
  have e1 : ((w1.setCell ⟨blk (wayA a N), 2, none⟩ (.bool false)).setCell ⟨blk (wayA a N), 3, none⟩ (.int .i64 0)).frozen? ⟨bt, 1, none⟩ = false := froz_blk HT3.out.root 1
  have HT4 := mkHid (HT3.out.count (n - 1))
  have hw : IntKind.i64.wrap (n - 1) = n - 1 := IntWalk.i64_in _ (by omega)
  clear hb hx0 hx1 c2 G1 HT
  go_upto_region 7 with fail
  obtain ⟨W, hW⟩ : ∃ W, W = ((w1.setCell ⟨blk (wayA a N), 2, none⟩ (.bool false)).setCell ⟨blk (wayA a N), 3, none⟩ (.int .i64 0)).setCell ⟨bt, 1, none⟩ (.int .i64 (n - 1)) := ⟨_, rfl⟩
  have hog : own (blk (wayA a N)) := G4.out _ hD
  have hxn : blk (wayA a N) ≠ w.heap.size := fun e => absurd (HS.out _ hog) (by omega)
  have hbn : bt ≠ w.heap.size := by have := G3.out.2; omega
  have p0 : W.cell? ⟨w.heap.size, 0, none⟩ = some (.int .u32 a) := by
    rw [hW, World.cell?_setCell_other _ _ _ _ (fun e => hbn (congrArg Addr.block e)), World.cell?_setCell_other _ _ _ _ (fun e => hxn (congrArg Addr.block e)), World.cell?_setCell_other _ _ _ _ (fun e => hxn (congrArg Addr.block e))]; exact q0
  have p1 : W.cell? ⟨w.heap.size, 1, none⟩ = some (.int .i64 N) := by
    rw [hW, World.cell?_setCell_other _ _ _ _ (fun e => hbn (congrArg Addr.block e)), World.cell?_setCell_other _ _ _ _ (fun e => hxn (congrArg Addr.block e)), World.cell?_setCell_other _ _ _ _ (fun e => hxn (congrArg Addr.block e))]; exact q1
  have HTW : Hid (TrieAt kI W bt (n - 1) D (putM m (wayA a N) none) blk) := by rw [hW]; exact HT4.out
  have HKW : Hid (Kb own w W) := by
    rw [hW]
    exact (((Kb.of_below HB.out).set _ (.inl hog)).set _ (.inl hog)).set _ (.inl G3.out.1)
  rw [← hW]
  clear hW HT4 HT3 d1 e1 f2 f3 c3 c4 q0 q1 hog hxn hs HB
  have hroot : D [] = true := HTW.out.nodes.ups _ [] hD
  have hkW : W.cell? ⟨bt, 0, none⟩ = some (.pointer (some ⟨blk [], 0, none⟩)) := by rw [HTW.out.cell0, ptrT_some hroot]
  have hcall : Hid (Calls Try.prog 43 #[.pointer (some ⟨blk [], 0, none⟩), .agg #[.int .u32 a, .int .i64 N], .int .i64 0] W.drew fun e w1 => ∃ u, e = .returned (.pointer u) ∧ w1.cell? ⟨bt, 0, none⟩ = some (.pointer (some ⟨blk [], 0, none⟩)) ∧ w1.frozen? ⟨bt, 0, none⟩ = false ∧ w1.cell? ⟨w.heap.size, 0, none⟩ = some (.int .u32 a) ∧ w1.cell? ⟨w.heap.size, 1, none⟩ = some (.int .i64 N) ∧
      Hid (Tri kI (w1.setCell ⟨bt, 0, none⟩ (.pointer u)) bt own (n - 1) (putM m (wayA a N) none) ∧ Kb own w (w1.setCell ⟨bt, 0, none⟩ (.pointer u)))) := by
    have hs1 : w.heap.size < W.heap.size := World.block_lt_of_cell? _ _ p0
    refine (prune_calls bt own (n - 1) (putM m (wayA a N) none) blk a N h0 h1 b1 G3.out.1 N 0 (by omega) W.drew D HTW.out.drew hD G4.out (fun b hb => Nat.lt_of_lt_of_le (HS.out b hb) HKW.out.size) (fun π hp => ?_)).mono ?_
    · obtain ⟨ρ, hr⟩ := G2.out π hp
      by_cases e : π ++ ρ = wayA a N
      · refine .inr ⟨π.length, ?_, ?_⟩
        · have := congrArg List.length e; rw [List.length_append, wayA_len] at this; omega
        · rw [← wayA_take a N π.length (by have := congrArg List.length e; rw [List.length_append, wayA_len] at this; omega), ← e, List.take_left]
      · exact .inl ⟨ρ, by rw [putM_ne e]; exact hr⟩
    · rintro e w2 ⟨D1, rfl, g1, g2, g3, g4, g5⟩
      obtain ⟨u, hu⟩ := ptrT_ptr D1 blk []
      have hno : ¬ own w.heap.size := fun h => absurd (HS.out _ h) (by omega)
      have hb1 : w2.heap[w.heap.size]? = W.heap[w.heap.size]? := g5.block _ hs1 hno
      refine ⟨u, by rw [show wayA a 0 = [] from rfl, hu], ?_, froz_blk g1.root 0, ?_, ?_, ⟨D1, blk, ?_, fun π hp => ?_, G3.out.1, fun π hp => G4.out π (g2 π hp)⟩, ?_⟩
      · rw [cell_blk g1.root]
        show some (ptrU D1 blk [] (ptrT D blk []) []) = _
        rw [ptrU_eq, ptrT_some hroot]
      · unfold World.cell? at p0 ⊢; rw [hb1]; exact p0
      · unfold World.cell? at p1 ⊢; rw [hb1]; exact p1
      · rw [← hu]; exact g1.set (.inl ⟨rfl, rfl⟩)
      · rcases g3 π hp with h | ⟨j, hj, _⟩
        · exact h
        · omega
      · exact (HKW.out.trans ⟨g5.os, g5.tape, g5.output, g5.size, g5.block⟩).set _ (.inl G3.out.1)
  have hn : Hid (∀ o, (⟨bt, 0, none⟩ : Addr) ≠ ⟨w.heap.size, o, none⟩) := fun o e => hbn (congrArg Addr.block e)
  clear hbn hD hroot hm
  go_region_with (first | (go_at_call 43; refine hcall.out.mono ?_; rintro e w2 ⟨u, rfl, d0, e0, b0, b1, h2⟩))
  all_goals
    have HF := mkHid h2.out
    clear h2 d0 e0 b0 b1 hcall
    go_wp2_with fail
    go_ret
    exact ⟨rfl, HF.out.1, HF.out.2⟩
end Go.Proofs.Ytnihacajjpcjeaa
