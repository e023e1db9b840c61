/- Tries: Longest. -/
import Derived.Test.YtnihacajjpcjeaaTrAd
import Derived.Test.YtnihacajjpcjeaaPx6
namespace Go.Proofs.Ytnihacajjpcjeaa
open Go.RowKit Go.Proofs.Ytnihacajjpcjeaa.P Go.Proofs.YtnihacajjpcjeaaW.PrintWords Go.Proofs.YtnihacajjpcjeaaW.PrintLast Go.Proofs.YtnihacajjpcjeaaW.PrintMore
set_option linter.unusedVariables false
set_option linter.unusedSimpArgs false

/-- the longest of the first i lengths: its length, its value -/
def bstT {V : Type} (m : Way → Option V) (a : Int) : Nat → Option (Nat × V)
  | 0 => none
  | i + 1 => match m (wayA a i) with
    | some v => some (i, v)
    | none => bstT m a i
theorem bst_stay {V : Type} {m : Way → Option V} {a : Int} {i : Nat} : ∀ d, (∀ j, i ≤ j → j < i + d → m (wayA a j) = none) → bstT m a (i + d) = bstT m a i := by
  intro d
  induction d with
  | zero => intro _; rfl
  | succ d ih =>
    intro h
    show (match m (wayA a (i + d)) with | some v => some (i + d, v) | none => bstT m a (i + d)) = _
    rw [h (i + d) (by omega) (by omega)]
    exact ih (fun j h1 h2 => h j h1 (by omega))
theorem bst_some {V : Type} {m : Way → Option V} {a : Int} {i : Nat} {v : V} (h : m (wayA a i) = some v) : bstT m a (i + 1) = some (i, v) := by simp [bstT, h]
theorem bst_none {V : Type} {m : Way → Option V} {a : Int} {i : Nat} (h : m (wayA a i) = none) : bstT m a (i + 1) = bstT m a i := by simp [bstT, h]
def bA {V : Type} (a : Int) (o : Option (Nat × V)) : Int := match o with | some x => adrA a x.1 | none => 0
def bB {V : Type} (o : Option (Nat × V)) : Int := match o with | some x => (x.1 : Int) | none => 0
def bV (o : Option (Nat × Int)) : Int := match o with | some x => x.2 | none => 0

set_option maxHeartbeats 8000000 in
set_option maxRecDepth 100000 in
theorem lng_nil (w : World) (a : Int) :
    Calls Try.prog 21 #[.pointer none, .int .u32 a] w fun e w' => e = .returned (.tuple #[.agg #[.int .u32 0, .int .i64 0], .int .i64 0, .bool false]) ∧ Below w.heap.size w w' := by
  go_enter Try.func21, Try.ntmps21
  go_wp2_with fail
  refine bodyPost_ret (v := .tuple #[.agg #[.int .u32 0, .int .i64 0], .int .i64 0, .bool false]) ?_ rfl ⟨rfl, ?_⟩
  · simp [results, Try.results21, go_sem]
  · exact ((Below.refl w.heap.size w).alloc (Nat.le_refl _) _).alloc (by simp) _
set_option maxHeartbeats 8000000 in
set_option maxRecDepth 100000 in
theorem lng_calls (w : World) (bt : Nat) (own : Nat → Prop) (n : Int) (m : Way → Option Int) (hT : Tri kI w bt own n m) (a : Int) (h0 : 0 ≤ a) (h1 : a < 4294967296) :
    Calls Try.prog 21 #[.pointer (some ⟨bt, 0, none⟩), .int .u32 a] w fun e w' => e = .returned (.tuple #[.agg #[.int .u32 (bA a (bstT m a 33)), .int .i64 (bB (bstT m a 33))], .int .i64 (bV (bstT m a 33)), .bool (bstT m a 33).isSome]) ∧ Below w.heap.size w w' := by
  obtain ⟨D, blk, g1, g2, g3, g4⟩ := hT
  have G1 := mkHid g1
  have hc0 := g1.cell0
  have hbt := blk_lt g1.root
  clear g1 g2 g3 g4
  go_enter Try.func21, Try.ntmps21
  go_upto_region 7 with fail
  obtain ⟨S0, hS0⟩ : ∃ S0, S0 = w.heap.size := ⟨_, rfl⟩
  obtain ⟨W, hW⟩ : ∃ W, W = ((w.alloc (.cells #[.int .u32 0, .int .i64 0] 34)).alloc (.cells #[.int .u32 0, .int .i64 0] 34)).alloc (.cells #[.int .u32 0, .int .i64 0] 34) := ⟨_, rfl⟩
  have hB : Hid (Below w.heap.size w W) := by rw [hW]; exact (((Below.refl w.heap.size w).alloc (Nat.le_refl _) _).alloc (by simp) _).alloc (by simp; omega) _
  have r4 : W.heap[S0]? = some (.cells #[.int .u32 0, .int .i64 0] 34 (0, 0)) := by
    rw [hW, hS0]; exact blk_alloc (blk_alloc (heap_alloc_new w _) _) _
  have r7 : W.heap[S0 + 1]? = some (.cells #[.int .u32 0, .int .i64 0] 34 (0, 0)) := by
    rw [hW, hS0]
    have := heap_alloc_new (w.alloc (.cells #[.int .u32 0, .int .i64 0] 34)) (.cells #[.int .u32 0, .int .i64 0] 34)
    rw [World.size_alloc] at this
    exact blk_alloc this _
  have r10 : W.heap[S0 + 1 + 1]? = some (.cells #[.int .u32 0, .int .i64 0] 34 (0, 0)) := by
    rw [hW, hS0]
    have := heap_alloc_new ((w.alloc (.cells #[.int .u32 0, .int .i64 0] 34)).alloc (.cells #[.int .u32 0, .int .i64 0] 34)) (.cells #[.int .u32 0, .int .i64 0] 34)
    rw [World.size_alloc, World.size_alloc] at this
    exact this
  have HTW := mkHid (G1.out.below hB.out)
  have hcW := HTW.out.cell0
  rw [← hW, ← hS0]
  rw [← hS0] at hbt hB
  obtain ⟨S1, hS1⟩ : ∃ S1, S1 = S0 + 1 := ⟨_, rfl⟩
  obtain ⟨S2, hS2⟩ : ∃ S2, S2 = S1 + 1 := ⟨_, rfl⟩
  rw [← hS1] at r7 r10
  rw [← hS2] at r10
  rw [← hS1, ← hS2]
  have hsl : Hid (S1 = S0 + 1 ∧ S2 = S0 + 2 ∧ S0 = w.heap.size) := ⟨hS1, by omega, hS0⟩
  have R4 := mkHid r4
  have R7 := mkHid r7
  have R10 := mkHid r10
  clear hW hc0 r4 r7 r10 HTW hS1 hS2 hS0
  go_wp2_with fail
  go_loopg [8, 9, 11] 32 (fun kq v8 v9 v11 wr => ∃ i : Nat, v11 = ptrT D blk (wayA a i) ∧ i ≤ 32 ∧ v8 = .int .i64 (bV (bstT m a i)) ∧ v9 = .bool (bstT m a i).isSome ∧ i + kq = 32 ∧ Hid (wr.heap[S0]? = some (.cells #[.int .u32 0, .int .i64 0] 34 (0, 0))) ∧ Hid (wr.heap[S1]? = some (.cells #[.int .u32 (bA a (bstT m a i)), .int .i64 (bB (bstT m a i))] 34 (0, 0))) ∧ Hid (wr.heap[S2]? = some (.cells #[.int .u32 (adrA a i), .int .i64 i] 34 (0, 0))) ∧ Hid (Below S0 w wr))
  case atStart => exact ⟨0, rfl, by omega, rfl, rfl, by omega, R4.out, R7.out, (by rw [adrA_zero a h0 h1]; exact R10.out), hB⟩
  case round =>
    clear R4 R7 R10 hB hcW
    obtain ⟨i, rfl, hi, rfl, rfl, hk, R4, R7, R10, HB⟩ := hrel
    have HBw : Hid (Below w.heap.size w wr) := by rw [← hsl.out.2.2]; exact HB.out
    have HT := mkHid (G1.out.below HBw.out)
    cases hD : D (wayA a i) with
    | false =>
      rw [ptrT_none hD]
      have hbf : Hid (bstT m a 33 = bstT m a i) := by
        have := bst_stay (m := m) (a := a) (i := i) (33 - i) (fun j h1 h2 => by
          obtain ⟨ρ, hρ⟩ := wayA_split a h1
          cases hv : m (wayA a j) with
          | none => rfl
          | some v =>
            have h3 := HT.out.nodes.sup (wayA a j) (by rw [hv]; rfl)
            rw [hρ] at h3
            rw [HT.out.nodes.ups ρ _ h3] at hD; cases hD)
        rw [show i + (33 - i) = 33 by omega] at this
        exact this
      have p0 : wr.cell? ⟨S1, 0, none⟩ = some (.int .u32 (bA a (bstT m a i))) := blk_cell R7.out 0
      have p1 : wr.cell? ⟨S1, 1, none⟩ = some (.int .i64 (bB (bstT m a i))) := blk_cell R7.out 1
      have t0 : wr.cell? ⟨S0, 0, none⟩ = some (.int .u32 0) := blk_cell R4.out 0
      have t1 : wr.cell? ⟨S0, 1, none⟩ = some (.int .i64 0) := blk_cell R4.out 1
      have tf0 : wr.frozen? ⟨S0, 0, none⟩ = false := blk_frozen R4.out _
      have tf1 : wr.frozen? ⟨S0, 1, none⟩ = false := blk_frozen R4.out _
      have z := blk_set (blk_set R4.out 0 (.int .u32 (bA a (bstT m a i)))) 1 (.int .i64 (bB (bstT m a i)))
      have z0 : ((wr.setCell ⟨S0, 0, none⟩ (.int .u32 (bA a (bstT m a i)))).setCell ⟨S0, 1, none⟩ (.int .i64 (bB (bstT m a i)))).cell? ⟨S0, 0, none⟩ = some (.int .u32 (bA a (bstT m a i))) := blk_cell z 0
      have z1 : ((wr.setCell ⟨S0, 0, none⟩ (.int .u32 (bA a (bstT m a i)))).setCell ⟨S0, 1, none⟩ (.int .i64 (bB (bstT m a i)))).cell? ⟨S0, 1, none⟩ = some (.int .i64 (bB (bstT m a i))) := blk_cell z 1
      have hend : Hid (Below w.heap.size w ((wr.setCell ⟨S0, 0, none⟩ (.int .u32 (bA a (bstT m a i)))).setCell ⟨S0, 1, none⟩ (.int .i64 (bB (bstT m a i))))) := by
        rw [← hsl.out.2.2]; exact (HB.out.setCell (Nat.le_refl _) _).setCell (Nat.le_refl _) _
      clear z
      go_wp2_with fail
      refine bodyPost_ret (v := .tuple #[.agg #[.int .u32 (bA a (bstT m a i)), .int .i64 (bB (bstT m a i))], .int .i64 (bV (bstT m a i)), .bool (bstT m a i).isSome]) ?_ rfl ⟨by rw [hbf.out], hend.out⟩
      simp [results, Try.results21, go_sem, z0, z1]
    | true =>
      rw [ptrT_some hD]
      have c2 := HT.out.nodes.is hD
      have c3 : wr.cell? ⟨blk (wayA a i), 3, none⟩ = some (.int .i64 ((m (wayA a i)).getD 0)) := HT.out.nodes.val hD
      have q0 := blk_cell R10.out 0
      have q1 := blk_cell R10.out 1
      have q0' : wr.cell? ⟨S2, 0, none⟩ = some (.int .u32 (adrA a i)) := q0
      have q1' : wr.cell? ⟨S2, 1, none⟩ = some (.int .i64 i) := q1
      clear q0 q1
      cases hm : m (wayA a i)
      case' some v =>
        rw [hm] at c2 c3
        have c2' : wr.cell? ⟨blk (wayA a i), 2, none⟩ = some (.bool true) := c2
        have c3' : wr.cell? ⟨blk (wayA a i), 3, none⟩ = some (.int .i64 v) := c3
        have p0 : wr.cell? ⟨S1, 0, none⟩ = some (.int .u32 (bA a (bstT m a i))) := blk_cell R7.out 0
        have p1 : wr.cell? ⟨S1, 1, none⟩ = some (.int .i64 (bB (bstT m a i))) := blk_cell R7.out 1
        have pf0 : wr.frozen? ⟨S1, 0, none⟩ = false := blk_frozen R7.out _
        have pf1 : wr.frozen? ⟨S1, 1, none⟩ = false := blk_frozen R7.out _
        clear c2 c3
        have hfar : ∀ g o, g ≠ S1 → ∀ x y, ((wr.setCell ⟨S1, 0, none⟩ x).setCell ⟨S1, 1, none⟩ y).cell? ⟨g, o, none⟩ = wr.cell? ⟨g, o, none⟩ := fun g o hg x y => by
          rw [World.cell?_setCell_other _ _ _ _ (fun e => hg (congrArg Addr.block e).symm), World.cell?_setCell_other _ _ _ _ (fun e => hg (congrArg Addr.block e).symm)]
        have hblt : blk (wayA a i) < S0 := by have := G1.out.nodes.lt hD; have := hsl.out; omega
        have hX : Hid (((wr.setCell ⟨S1, 0, none⟩ (.int .u32 (adrA a i))).setCell ⟨S1, 1, none⟩ (.int .i64 i)).cell? ⟨S2, 0, none⟩ = some (.int .u32 (adrA a i)) ∧ ((wr.setCell ⟨S1, 0, none⟩ (.int .u32 (adrA a i))).setCell ⟨S1, 1, none⟩ (.int .i64 i)).cell? ⟨S2, 1, none⟩ = some (.int .i64 i) ∧ ((wr.setCell ⟨S1, 0, none⟩ (.int .u32 (adrA a i))).setCell ⟨S1, 1, none⟩ (.int .i64 i)).cell? ⟨blk (wayA a i), 3, none⟩ = some (.int .i64 v)) :=
          ⟨(hfar _ _ (by have := hsl.out; omega) _ _).trans q0', (hfar _ _ (by have := hsl.out; omega) _ _).trans q1', (hfar _ _ (by have := hsl.out; omega) _ _).trans c3'⟩
        clear hfar
        go_upto_region 11 with fail
        go_region_held3 (fun w' => w'.cell? ⟨S2, 0, none⟩ = some (.int .u32 (adrA a i)) ∧ w'.cell? ⟨S2, 1, none⟩ = some (.int .i64 i) ∧ w'.cell? ⟨blk (wayA a i), 3, none⟩ = some (.int .i64 v)) (first | (go_keep; done) | exact hX.out) (first | fail)
        obtain ⟨W2, hW2⟩ : ∃ W2, W2 = ((wr.setCell ⟨S1, 0, none⟩ (.int .u32 (adrA a i))).setCell ⟨S1, 1, none⟩ (.int .i64 i)).drew := ⟨_, rfl⟩
        have hbst : Hid (bstT m a (i + 1) = some (i, v)) := bst_some hm
        have R4' : Hid (W2.heap[S0]? = some (.cells #[.int .u32 0, .int .i64 0] 34 (0, 0))) := by
          rw [hW2]; exact blk_drew (blk_far (blk_far R4.out (show S0 ≠ S1 by have := hsl.out; omega) _) (show S0 ≠ S1 by have := hsl.out; omega) _)
        have R7' : Hid (W2.heap[S1]? = some (.cells #[.int .u32 (bA a (bstT m a (i + 1))), .int .i64 (bB (bstT m a (i + 1)))] 34 (0, 0))) := by
          rw [hW2, hbst.out]; exact blk_drew (blk_set (blk_set R7.out 0 _) 1 _)
        have R10' : Hid (W2.heap[S2]? = some (.cells #[.int .u32 (adrA a i), .int .i64 i] 34 (0, 0))) := by
          rw [hW2]; exact blk_drew (blk_far (blk_far R10.out (show S2 ≠ S1 by have := hsl.out; omega) _) (show S2 ≠ S1 by have := hsl.out; omega) _)
        have HB' : Hid (Below S0 w W2) := by
          rw [hW2]; exact ((HB.out.setCell (show S0 ≤ S1 by have := hsl.out; omega) _).setCell (show S0 ≤ S1 by have := hsl.out; omega) _).drew
        rw [← hW2]
        clear hW2 hX hblt p0 p1 pf0 pf1 c3' c2' q0' q1' R4 R7 R10 HB HBw HT
      case' none =>
        rw [hm] at c2
        have c2' : wr.cell? ⟨blk (wayA a i), 2, none⟩ = some (.bool false) := c2
        clear c2 c3
        go_upto_region 12 with fail
        obtain ⟨W2, hW2⟩ : ∃ W2, W2 = wr := ⟨_, rfl⟩
        have hbst : Hid (bstT m a (i + 1) = bstT m a i) := bst_none hm
        have R4' : Hid (W2.heap[S0]? = some (.cells #[.int .u32 0, .int .i64 0] 34 (0, 0))) := by rw [hW2]; exact R4.out
        have R7' : Hid (W2.heap[S1]? = some (.cells #[.int .u32 (bA a (bstT m a (i + 1))), .int .i64 (bB (bstT m a (i + 1)))] 34 (0, 0))) := by rw [hW2, hbst.out]; exact R7.out
        have R10' : Hid (W2.heap[S2]? = some (.cells #[.int .u32 (adrA a i), .int .i64 i] 34 (0, 0))) := by rw [hW2]; exact R10.out
        have HB' : Hid (Below S0 w W2) := by rw [hW2]; exact HB.out
        rw [← hW2]
        clear hW2 c2' q0' q1' R4 R7 R10 HB HBw HT
      all_goals
        have HT := mkHid (G1.out.below (show Below w.heap.size w W2 by rw [← hsl.out.2.2]; exact HB'.out))
        have q0 : W2.cell? ⟨S2, 0, none⟩ = some (.int .u32 (adrA a i)) := blk_cell R10'.out 0
        have q1 : W2.cell? ⟨S2, 1, none⟩ = some (.int .i64 i) := blk_cell R10'.out 1
        clear hm
        by_cases h32 : i = 32
        · subst h32
          have p0 : W2.cell? ⟨S1, 0, none⟩ = some (.int .u32 (bA a (bstT m a 33))) := blk_cell R7'.out 0
          have p1 : W2.cell? ⟨S1, 1, none⟩ = some (.int .i64 (bB (bstT m a 33))) := blk_cell R7'.out 1
          have t0 : W2.cell? ⟨S0, 0, none⟩ = some (.int .u32 0) := blk_cell R4'.out 0
          have t1 : W2.cell? ⟨S0, 1, none⟩ = some (.int .i64 0) := blk_cell R4'.out 1
          have tf0 : W2.frozen? ⟨S0, 0, none⟩ = false := blk_frozen R4'.out _
          have tf1 : W2.frozen? ⟨S0, 1, none⟩ = false := blk_frozen R4'.out _
          have z := blk_set (blk_set R4'.out 0 (.int .u32 (bA a (bstT m a 33)))) 1 (.int .i64 (bB (bstT m a 33)))
          have z0 : ((W2.setCell ⟨S0, 0, none⟩ (.int .u32 (bA a (bstT m a 33)))).setCell ⟨S0, 1, none⟩ (.int .i64 (bB (bstT m a 33)))).cell? ⟨S0, 0, none⟩ = some (.int .u32 (bA a (bstT m a 33))) := blk_cell z 0
          have z1 : ((W2.setCell ⟨S0, 0, none⟩ (.int .u32 (bA a (bstT m a 33)))).setCell ⟨S0, 1, none⟩ (.int .i64 (bB (bstT m a 33)))).cell? ⟨S0, 1, none⟩ = some (.int .i64 (bB (bstT m a 33))) := blk_cell z 1
          have hend : Hid (Below w.heap.size w ((W2.setCell ⟨S0, 0, none⟩ (.int .u32 (bA a (bstT m a 33)))).setCell ⟨S0, 1, none⟩ (.int .i64 (bB (bstT m a 33))))) := by
            rw [← hsl.out.2.2]; exact (HB'.out.setCell (Nat.le_refl _) _).setCell (Nat.le_refl _) _
          clear z
          go_wp2_with fail
          refine bodyPost_ret (v := .tuple #[.agg #[.int .u32 (bA a (bstT m a 33)), .int .i64 (bB (bstT m a 33))], .int .i64 (bV (bstT m a 33)), .bool (bstT m a 33).isSome]) ?_ rfl ⟨rfl, hend.out⟩
          have hb33 := hbst.out
          simp only [Nat.reduceAdd] at hb33
          simp only [hb33] at z0 z1
          simp [results, Try.results21, go_sem, z0, z1, hb33, bV]
        · have e32 : ((i : Int) == 32) = false := beq_eq_false_iff_ne.mpr (by omega)
          have hk0 : W2.cell? ⟨blk (wayA a i), 0, none⟩ = some (ptrT D blk (wayA a i ++ [false])) := HT.out.nodes.kid hD false
          have hk1 : W2.cell? ⟨blk (wayA a i), 1, none⟩ = some (ptrT D blk (wayA a i ++ [true])) := HT.out.nodes.kid hD true
          have hbit : Hid (trie_bit.f a (i : Int) = some ((bitB a i).toNat : Int)) := tbit_ev a i h0 h1 (by omega)
          have hw31 : IntKind.i64.wrap (31 - (i : Int)) = ((31 - i : Nat) : Int) := by rw [IntWalk.i64_in _ (by omega)]; omega
          have f0 : W2.frozen? ⟨S2, 0, none⟩ = false := blk_frozen R10'.out _
          have f1 : W2.frozen? ⟨S2, 1, none⟩ = false := blk_frozen R10'.out _
          cases hB : bitB a i with
          | false =>
            rw [hB] at hbit
            have hor := mkHid (adrA_or0 a i (by omega) h0 h1 hB)
            go_upto_region 13 with fail
            go_upto_region 14 with (first | (go_at_call 45; (with_reducible refine (trie_bit.calls a i ((false.toNat : Nat) : Int) _ hbit.out).mono ?_); rintro e w' ⟨rfl, ⟨nd, rfl⟩⟩; (try first | exact ⟨rfl, _, World.drewN_drewN _ _ _⟩)))
            go_region
            obtain ⟨W3, hW3⟩ : ∃ W3, W3 = (W2.drewN (nd + 1)).setCell ⟨S2, 0, none⟩ (.int .u32 (adrA a (i + 1))) := ⟨_, rfl⟩
            have R4 : Hid (W3.heap[S0]? = some (.cells #[.int .u32 0, .int .i64 0] 34 (0, 0))) := by
              rw [hW3]; exact blk_far (blk_drewN R4'.out _) (show S0 ≠ S2 by have := hsl.out; omega) _
            have R7 : Hid (W3.heap[S1]? = some (.cells #[.int .u32 (bA a (bstT m a (i + 1))), .int .i64 (bB (bstT m a (i + 1)))] 34 (0, 0))) := by
              rw [hW3]; exact blk_far (blk_drewN R7'.out _) (show S1 ≠ S2 by have := hsl.out; omega) _
            have R10 : Hid (W3.heap[S2]? = some (.cells #[.int .u32 (adrA a (i + 1)), .int .i64 i] 34 (0, 0))) := by
              rw [hW3]; exact blk_set (blk_drewN R10'.out _) 0 _
            have HB : Hid (Below S0 w W3) := by
              rw [hW3]; exact (pw_below_drewN HB'.out _).setCell (show S0 ≤ S2 by have := hsl.out; omega) _
            have HT3 := mkHid (G1.out.below (show Below w.heap.size w W3 by rw [← hsl.out.2.2]; exact HB.out))
            rw [hor.out, ← hW3]
            clear hW3 R4' R7' R10' HB' q0 q1 f0 f1 hk0 hk1 HT hor
            have q1 : W3.cell? ⟨S2, 1, none⟩ = some (.int .i64 i) := blk_cell R10.out 1
            have f1 : W3.frozen? ⟨S2, 1, none⟩ = false := blk_frozen R10.out _
            have hk : W3.cell? ⟨blk (wayA a i), 0, none⟩ = some (ptrT D blk (wayA a i ++ [false])) := HT3.out.nodes.kid hD false
            have hwi : IntKind.i64.wrap ((i : Int) + 1) = ((i + 1 : Nat) : Int) := by rw [IntWalk.i64_in _ (by omega)]; omega
            have hpt : ptrT D blk (wayA a i ++ [false]) = ptrT D blk (wayA a (i + 1)) := by rw [wayA, hB]
            rw [hpt] at hk
            clear hpt
            go_wp2_with fail
            go_roundg (gk - 1)
            case measure => omega
            case rel => exact ⟨i + 1, rfl, by omega, by first | (rw [hbst.out]; done) | (rw [hbst.out]; rfl), by first | (rw [hbst.out]; done) | (rw [hbst.out]; rfl), by omega, blk_far R4.out (show S0 ≠ S2 by have := hsl.out; omega) _, blk_far R7.out (show S1 ≠ S2 by have := hsl.out; omega) _, blk_set R10.out 1 _, HB.out.setCell (show S0 ≤ S2 by have := hsl.out; omega) _⟩
          | true =>
            rw [hB] at hbit
            have hor := mkHid (adrA_or1 a i (by omega) h0 h1 hB)
            go_upto_region 13 with fail
            go_upto_region 14 with (first | (go_at_call 45; (with_reducible refine (trie_bit.calls a i ((true.toNat : Nat) : Int) _ hbit.out).mono ?_); rintro e w' ⟨rfl, ⟨nd, rfl⟩⟩; (try first | exact ⟨rfl, _, World.drewN_drewN _ _ _⟩)))
            go_region
            obtain ⟨W3, hW3⟩ : ∃ W3, W3 = (W2.drewN (nd + 1)).setCell ⟨S2, 0, none⟩ (.int .u32 (adrA a (i + 1))) := ⟨_, rfl⟩
            have R4 : Hid (W3.heap[S0]? = some (.cells #[.int .u32 0, .int .i64 0] 34 (0, 0))) := by
              rw [hW3]; exact blk_far (blk_drewN R4'.out _) (show S0 ≠ S2 by have := hsl.out; omega) _
            have R7 : Hid (W3.heap[S1]? = some (.cells #[.int .u32 (bA a (bstT m a (i + 1))), .int .i64 (bB (bstT m a (i + 1)))] 34 (0, 0))) := by
              rw [hW3]; exact blk_far (blk_drewN R7'.out _) (show S1 ≠ S2 by have := hsl.out; omega) _
            have R10 : Hid (W3.heap[S2]? = some (.cells #[.int .u32 (adrA a (i + 1)), .int .i64 i] 34 (0, 0))) := by
              rw [hW3]; exact blk_set (blk_drewN R10'.out _) 0 _
            have HB : Hid (Below S0 w W3) := by
              rw [hW3]; exact (pw_below_drewN HB'.out _).setCell (show S0 ≤ S2 by have := hsl.out; omega) _
            have HT3 := mkHid (G1.out.below (show Below w.heap.size w W3 by rw [← hsl.out.2.2]; exact HB.out))
            rw [hor.out, ← hW3]
            clear hW3 R4' R7' R10' HB' q0 q1 f0 f1 hk0 hk1 HT hor
            have q1 : W3.cell? ⟨S2, 1, none⟩ = some (.int .i64 i) := blk_cell R10.out 1
            have f1 : W3.frozen? ⟨S2, 1, none⟩ = false := blk_frozen R10.out _
            have hk : W3.cell? ⟨blk (wayA a i), 1, none⟩ = some (ptrT D blk (wayA a i ++ [true])) := HT3.out.nodes.kid hD true
            have hwi : IntKind.i64.wrap ((i : Int) + 1) = ((i + 1 : Nat) : Int) := by rw [IntWalk.i64_in _ (by omega)]; omega
            have hpt : ptrT D blk (wayA a i ++ [true]) = ptrT D blk (wayA a (i + 1)) := by rw [wayA, hB]
            rw [hpt] at hk
            clear hpt
            go_wp2_with fail
            go_roundg (gk - 1)
            case measure => omega
            case rel => exact ⟨i + 1, rfl, by omega, by first | (rw [hbst.out]; done) | (rw [hbst.out]; rfl), by first | (rw [hbst.out]; done) | (rw [hbst.out]; rfl), by omega, blk_far R4.out (show S0 ≠ S2 by have := hsl.out; omega) _, blk_far R7.out (show S1 ≠ S2 by have := hsl.out; omega) _, blk_set R10.out 1 _, HB.out.setCell (show S0 ≤ S2 by have := hsl.out; omega) _⟩
end Go.Proofs.Ytnihacajjpcjeaa
