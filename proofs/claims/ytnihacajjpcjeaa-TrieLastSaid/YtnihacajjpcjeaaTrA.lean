/- Tries: Above. -/
import Derived.Test.YtnihacajjpcjeaaTrAd
import Derived.Test.YtnihacajjpcjeaaTrL
import Derived.Test.YtnihacajjpcjeaaPx0
import Derived.Test.YtnihacajjpcjeaaPx2
namespace Go.Proofs.Ytnihacajjpcjeaa
open Go.RowKit Go.Proofs.Ytnihacajjpcjeaa.P Go.Proofs.YtnihacajjpcjeaaW.PrintWords Go.Proofs.YtnihacajjpcjeaaW.PrintLast Go.Proofs.YtnihacajjpcjeaaW.PrintMore
set_option linter.unusedVariables false
set_option linter.unusedSimpArgs false

/-- the prefixes on the way of an address that have a value, the first i lengths -/
def abvT {V : Type} (m : Way → Option V) (a : Int) : Nat → List S34
  | 0 => []
  | i + 1 => match m (wayA a i) with
    | some _ => abvT m a i ++ [⟨adrA a i, (i : Int)⟩]
    | none => abvT m a i
theorem abv_some {V : Type} {m : Way → Option V} {a : Int} {i : Nat} {v : V} (h : m (wayA a i) = some v) : abvT m a (i + 1) = abvT m a i ++ [⟨adrA a i, (i : Int)⟩] := by simp [abvT, h]
theorem abv_none {V : Type} {m : Way → Option V} {a : Int} {i : Nat} (h : m (wayA a i) = none) : abvT m a (i + 1) = abvT m a i := by simp [abvT, h]
theorem abv_stay {V : Type} {m : Way → Option V} {a : Int} {i : Nat} : ∀ d, (∀ j, i ≤ j → j < i + d → m (wayA a j) = none) → abvT m a (i + d) = abvT m a i := by
  intro d
  induction d with
  | zero => intro _; rfl
  | succ d ih =>
    intro h
    rw [← Nat.add_assoc, abv_none (h (i + d) (by omega) (by omega))]
    exact ih (fun j h1 h2 => h j h1 (by omega))
theorem abv_len {V : Type} (m : Way → Option V) (a : Int) (i : Nat) : (abvT m a i).length ≤ i := by
  induction i with
  | zero => exact Nat.le_refl _
  | succ i ih =>
    cases h : m (wayA a i) with
    | some v => rw [abv_some h]; simp; omega
    | none => rw [abv_none h]; omega

set_option maxHeartbeats 8000000 in
set_option maxRecDepth 100000 in
theorem above_not (w : World) (bt : Nat) (a b : Int) (hM : addr_May.f a b = some false) :
    Calls Try.prog 20 #[.pointer (some ⟨bt, 0, none⟩), .agg #[.int .u32 a, .int .i64 b]] w fun e w' => e = .returned (.slice none 0 0) ∧ Below w.heap.size w w' := by
  have HM := mkHid hM
  have HB0 : Hid (Below w.heap.size w (w.alloc (.cells #[.int .u32 a, .int .i64 b] 34))) := Below.alloc (Below.refl _ w) (Nat.le_refl _) _
  clear hM
  go_enter Try.func20, Try.ntmps20
  go_wp2_with fail
  refine (addr_May.calls a b false _ HM.out).mono ?_
  rintro e w1 ⟨rfl, hb⟩
  have HB := mkHid (below_step HB0.out hb)
  clear hb
  go_wp2_with fail
  go_ret
  exact ⟨rfl, HB.out⟩
set_option maxHeartbeats 8000000 in
set_option maxRecDepth 100000 in
theorem above_calls (w : World) (bt : Nat) (own : Nat → Prop) (n : Int) (m : Way → Option Int) (hT : Tri kI w bt own n m) (a : Int) (N : Nat) (h0 : 0 ≤ a) (h1 : a < 4294967296) (b1 : N ≤ 32) (hM : addr_May.f a N = some true) :
    Calls Try.prog 20 #[.pointer (some ⟨bt, 0, none⟩), .agg #[.int .u32 a, .int .i64 N]] w fun e w' => ∃ v : Value, e = .returned v ∧ Kd.R k34 34 w' w.heap.size (fun _ => True) v (abvT m a (N + 1)) ∧ Below w.heap.size w w' := by
  have HM := mkHid hM
  obtain ⟨D, blk, g1, g2, g3, g4⟩ := hT
  have G1 := mkHid g1
  have hbt := blk_lt g1.root
  have HB0 : Hid (Below w.heap.size w (w.alloc (.cells #[.int .u32 a, .int .i64 N] 34))) := Below.alloc (Below.refl _ w) (Nat.le_refl _) _
  have hx0 : (w.alloc (.cells #[.int .u32 a, .int .i64 N] 34)).cell? ⟨w.heap.size, 0, none⟩ = some (.int .u32 a) := by go_simp
  have hx1 : (w.alloc (.cells #[.int .u32 a, .int .i64 N] 34)).cell? ⟨w.heap.size, 1, none⟩ = some (.int .i64 N) := by go_simp
  clear g1 g2 g3 g4 hM
  go_enter Try.func20, Try.ntmps20
  go_wp2_with fail
  refine (addr_May.calls a N true _ HM.out).mono ?_
  rintro e w1 ⟨rfl, hb⟩
  have HB1 := mkHid (below_step HB0.out hb)
  have hs : w.heap.size < w1.heap.size := by have := hb.size; simp at this; omega
  have y0 : w1.cell? ⟨w.heap.size, 0, none⟩ = some (.int .u32 a) := (hb.cell (by simp)).trans hx0
  have y1 : w1.cell? ⟨w.heap.size, 1, none⟩ = some (.int .i64 N) := (hb.cell (by simp)).trans hx1
  clear hb hx0 hx1 HB0
  go_upto_region 5 with fail
  obtain ⟨S1, hS1⟩ : ∃ S1, S1 = w1.heap.size := ⟨_, rfl⟩
  obtain ⟨W, hW⟩ : ∃ W, W = w1.alloc (.cells #[.int .u32 0, .int .i64 0] 34) := ⟨_, rfl⟩
  have HBW : Hid (Below w1.heap.size w1 W) := by rw [hW]; exact Below.alloc (Below.refl _ w1) (Nat.le_refl _) _
  have R10 : Hid (W.heap[S1]? = some (.cells #[.int .u32 0, .int .i64 0] 34 (0, 0))) := by rw [hW, hS1]; exact heap_alloc_new _ _
  have hsl : Hid (w.heap.size < S1) := by rw [hS1]; exact hs
  have q0 : W.cell? ⟨w.heap.size, 0, none⟩ = some (.int .u32 a) := (HBW.out.cell hs).trans y0
  have q1 : W.cell? ⟨w.heap.size, 1, none⟩ = some (.int .i64 N) := (HBW.out.cell hs).trans y1
  have HB : Hid (Below w.heap.size w W) := below_step HB1.out HBW.out
  have HTW := mkHid (G1.out.below HB.out)
  have hcW := HTW.out.cell0
  have hsW : S1 < W.heap.size := blk_lt R10.out
  rw [← hW, ← hS1]
  clear hW hS1 y0 y1 HTW HB1 HBW hs
  go_wp2_with fail
  go_loopg [5, 7] N (fun kq v5 v7 wr => ∃ i : Nat, v7 = ptrT D blk (wayA a i) ∧ i ≤ N ∧ i + kq = N ∧ wr.cell? ⟨w.heap.size, 0, none⟩ = some (.int .u32 a) ∧ wr.cell? ⟨w.heap.size, 1, none⟩ = some (.int .i64 N) ∧ Hid (wr.heap[S1]? = some (.cells #[.int .u32 (adrA a i), .int .i64 i] 34 (0, 0))) ∧ Hid (Kd.R k34 34 wr (S1 + 1) (fun _ => True) v5 (abvT m a i)) ∧ Hid (Below w.heap.size w wr))
  case atStart => exact ⟨0, rfl, by omega, by omega, q0, q1, (by rw [adrA_zero a h0 h1]; exact R10.out), Kd.R_nil _ _ _ _ _, HB.out⟩
  case round =>
    clear q0 q1 R10 HB hcW hsW
    obtain ⟨i, rfl, hi, hk, q0, q1, R10, HR, HB⟩ := hrel
    have HT := mkHid (G1.out.below HB.out)
    obtain ⟨A, c, hv⟩ := Kd.R_slice HR.out
    obtain ⟨ln, hln⟩ : ∃ ln, ln = (abvT m a i).length := ⟨_, rfl⟩
    rw [← hln] at hv
    subst hv
    have HLN : Hid (ln = (abvT m a i).length ∧ ln ≤ 33) := ⟨hln, by have := abv_len m a i; omega⟩
    clear hln
    cases hD : D (wayA a i) with
    | false =>
      rw [ptrT_none hD]
      have hbf : Hid (abvT m a (N + 1) = abvT m a i) := by
        have := abv_stay (m := m) (a := a) (i := i) (N + 1 - i) (fun j h1 h2 => by
          obtain ⟨ρ, hρ⟩ := wayA_split a h1
          cases hv : m (wayA a j) with
          | none => rfl
          | some v =>
            have h3 := HT.out.nodes.sup (wayA a j) (by rw [hv]; rfl)
            rw [hρ] at h3
            rw [HT.out.nodes.ups ρ _ h3] at hD; cases hD)
        rw [show i + (N + 1 - i) = N + 1 by omega] at this
        exact this
      go_wp2_with fail
      go_ret
      exact ⟨_, rfl, by rw [hbf.out]; exact Kd.R_lower HR.out (by have := hsl.out; omega), HB.out⟩
    | true =>
      rw [ptrT_some hD]
      have c2 := HT.out.nodes.is hD
      have u0 : wr.cell? ⟨S1, 0, none⟩ = some (.int .u32 (adrA a i)) := blk_cell R10.out 0
      have u1 : wr.cell? ⟨S1, 1, none⟩ = some (.int .i64 i) := blk_cell R10.out 1
      cases hm : m (wayA a i)
      case' some v =>
        rw [hm] at c2
        have c2' : wr.cell? ⟨blk (wayA a i), 2, none⟩ = some (.bool true) := c2
        have hsz : S1 + 1 ≤ wr.heap.size := blk_lt R10.out
        clear c2
        go_upto_region 9 with (at_builtin; refine Kd.R_append k34 (w0 := wr) (S1 + 1) ?a1 (.tmp 28) (.tmp 30) 44 34 (.agg #[(.int .u32 0), (.int .i64 0)]) 16 ?a2 ?a3 ?a4 ?a5 ?a6 ?a7 (.slice A ln c) (abvT m a i) ⟨adrA a i, (i : Int)⟩ [.int .u32 (adrA a i), .int .i64 i] (fun _ => True) (fun _ => False) ?a8 ?a9 ?aP ?aE ?aF ?aO ?aB ?aS ?aL ?_; (case a1 => rfl); (case a2 => rfl); (case a3 => exact Try.underlying44); (case a4 => exact info34); (case a5 => rfl); (case a6 => decide); (case a7 => omega); (case a8 => rfl); (case a9 => rfl); (case aP => exact k34_mkM _ _ _ ⟨adrA a i, (i : Int)⟩); (case aE => exact fun _ h => h.elim); (case aF => exact fun _ _ => trivial); (case aO => exact HR.out); (case aB => exact Below.refl _ _); (case aS => exact hsz); (case aL => have := HLN.out; omega); intro v1 w3 hR3 hB3 _ _; obtain ⟨A4, c4, h4⟩ := Kd.R_slice hR3; obtain ⟨n4, hn4⟩ : ∃ n4 : Nat, n4 = (abvT m a i ++ [(⟨adrA a i, (i : Int)⟩ : S34)]).length := ⟨_, rfl⟩; rw [← hn4] at h4; subst h4; have HN4 := mkHid hn4; clear hn4)
        have R10' : Hid (w3.heap[S1]? = some (.cells #[.int .u32 (adrA a i), .int .i64 i] 34 (0, 0))) := (hB3.block S1 (by omega)).trans R10.out
        have HB' : Hid (Below w.heap.size w w3) := HB.out.trans (hB3.mono (by have := hsl.out; omega))
        have HR' : Hid (Kd.R k34 34 w3 (S1 + 1) (fun _ => True) (.slice A4 n4 c4) (abvT m a (i + 1))) := by rw [abv_some hm]; exact hR3
        have q0' : w3.cell? ⟨w.heap.size, 0, none⟩ = some (.int .u32 a) := (hB3.cell (show w.heap.size < S1 + 1 by have := hsl.out; omega)).trans q0
        have q1' : w3.cell? ⟨w.heap.size, 1, none⟩ = some (.int .i64 N) := (hB3.cell (show w.heap.size < S1 + 1 by have := hsl.out; omega)).trans q1
        clear hB3 hR3 HN4 HLN HR R10 HB HT q0 q1 u0 u1 c2' hsz
      case' none =>
        rw [hm] at c2
        have c2' : wr.cell? ⟨blk (wayA a i), 2, none⟩ = some (.bool false) := c2
        clear c2
        go_upto_region 9 with fail
        obtain ⟨w3, hw3⟩ : ∃ w3, w3 = wr := ⟨_, rfl⟩
        obtain ⟨A4, hA4⟩ : ∃ A4, A4 = A := ⟨_, rfl⟩
        obtain ⟨n4, hn4⟩ : ∃ n4, n4 = ln := ⟨_, rfl⟩
        obtain ⟨c4, hc4⟩ : ∃ c4, c4 = c := ⟨_, rfl⟩
        have R10' : Hid (w3.heap[S1]? = some (.cells #[.int .u32 (adrA a i), .int .i64 i] 34 (0, 0))) := by rw [hw3]; exact R10.out
        have HB' : Hid (Below w.heap.size w w3) := by rw [hw3]; exact HB.out
        have HR' : Hid (Kd.R k34 34 w3 (S1 + 1) (fun _ => True) (.slice A4 n4 c4) (abvT m a (i + 1))) := by rw [abv_none hm, hw3, hA4, hn4, hc4]; exact HR.out
        have q0' : w3.cell? ⟨w.heap.size, 0, none⟩ = some (.int .u32 a) := by rw [hw3]; exact q0
        have q1' : w3.cell? ⟨w.heap.size, 1, none⟩ = some (.int .i64 N) := by rw [hw3]; exact q1
        rw [← hw3, ← hA4, ← hn4, ← hc4]
        clear hw3 hA4 hn4 hc4 HLN HR R10 HB HT q0 q1 u0 u1 c2'
      all_goals
        have HT := mkHid (G1.out.below HB'.out)
        have u0 : w3.cell? ⟨S1, 0, none⟩ = some (.int .u32 (adrA a i)) := blk_cell R10'.out 0
        have u1 : w3.cell? ⟨S1, 1, none⟩ = some (.int .i64 i) := blk_cell R10'.out 1
        clear hm
        by_cases hiN : i = N
        · subst hiN
          go_wp2_with fail
          go_ret
          exact ⟨_, rfl, Kd.R_lower HR'.out (by have := hsl.out; omega), HB'.out⟩
        · have e32 : ((i : Int) == (N : Int)) = false := beq_eq_false_iff_ne.mpr (by omega)
          have hw31 : IntKind.i64.wrap (31 - (i : Int)) = ((31 - i : Nat) : Int) := by rw [IntWalk.i64_in _ (by omega)]; omega
          have f0 : w3.frozen? ⟨S1, 0, none⟩ = false := blk_frozen R10'.out _
          have f1 : w3.frozen? ⟨S1, 1, none⟩ = false := blk_frozen R10'.out _
          cases hB : bitB a i with
          | false =>
            have hbit : Hid (trie_bit.f a (i : Int) = some ((bitB a i).toNat : Int)) := tbit_ev a i h0 h1 (by omega)
            rw [hB] at hbit
            have hor := mkHid (adrA_or0 a i (by omega) h0 h1 hB)
            go_upto_region 10 with fail
            go_upto_region 11 with (first | (go_at_call 45; (with_reducible refine (trie_bit.calls a i ((false.toNat : Nat) : Int) _ hbit.out).mono ?_); rintro e w' ⟨rfl, ⟨nd, rfl⟩⟩; (try first | exact ⟨rfl, _, World.drewN_drewN _ _ _⟩)))
            go_region
            obtain ⟨W3, hW3⟩ : ∃ W3, W3 = (w3.drewN (nd + 1)).setCell ⟨S1, 0, none⟩ (.int .u32 (adrA a (i + 1))) := ⟨_, rfl⟩
            have R10b : Hid (W3.heap[S1]? = some (.cells #[.int .u32 (adrA a (i + 1)), .int .i64 i] 34 (0, 0))) := by
              rw [hW3]; exact blk_set (blk_drewN R10'.out _) 0 _
            have HB2 : Hid (Below w.heap.size w W3) := by
              rw [hW3]; exact (pw_below_drewN HB'.out _).setCell (show w.heap.size ≤ S1 by have := hsl.out; omega) _
            have HT3 := mkHid (G1.out.below HB2.out)
            have HR2 : Hid (Kd.R k34 34 W3 (S1 + 1) (fun _ => True) (.slice A4 n4 c4) (abvT m a (i + 1))) := by
              rw [hW3]; exact Kd.R_mono (Kd.R_far (Kd.R_bound (Kd.R_drewN HR'.out _)) (p := ⟨S1, 0, none⟩) (fun k hk => by have := hk.2.1; show k ≠ S1; omega) _) (fun _ _ => trivial)
            have q0 : W3.cell? ⟨w.heap.size, 0, none⟩ = some (.int .u32 a) := by
              rw [hW3, World.cell?_setCell_other _ _ _ _ (fun e => absurd (congrArg Addr.block e) (show S1 ≠ w.heap.size by have := hsl.out; omega))]; exact q0'
            have q1 : W3.cell? ⟨w.heap.size, 1, none⟩ = some (.int .i64 N) := by
              rw [hW3, World.cell?_setCell_other _ _ _ _ (fun e => absurd (congrArg Addr.block e) (show S1 ≠ w.heap.size by have := hsl.out; omega))]; exact q1'
            rw [hor.out, ← hW3]
            clear hW3 R10' HB' HR' q0' q1' u0 u1 f0 f1 HT hor
            have u1 : W3.cell? ⟨S1, 1, none⟩ = some (.int .i64 i) := blk_cell R10b.out 1
            have f1 : W3.frozen? ⟨S1, 1, none⟩ = false := blk_frozen R10b.out _
            have hwi : IntKind.i64.wrap ((i : Int) + 1) = ((i + 1 : Nat) : Int) := by rw [IntWalk.i64_in _ (by omega)]; omega
            have hpt : ptrT D blk (wayA a i ++ [false]) = ptrT D blk (wayA a (i + 1)) := by rw [wayA, hB]
            go_upto_region 13 with fail
            obtain ⟨W4, hW4⟩ : ∃ W4, W4 = W3.setCell ⟨S1, 1, none⟩ (.int .i64 ((i + 1 : Nat) : Int)) := ⟨_, rfl⟩
            have R10c : Hid (W4.heap[S1]? = some (.cells #[.int .u32 (adrA a (i + 1)), .int .i64 ((i + 1 : Nat) : Int)] 34 (0, 0))) := by rw [hW4]; exact blk_set R10b.out 1 _
            have HB5 : Hid (Below w.heap.size w W4) := by rw [hW4]; exact HB2.out.setCell (show w.heap.size ≤ S1 by have := hsl.out; omega) _
            have HT4 := mkHid (G1.out.below HB5.out)
            have HR5 : Hid (Kd.R k34 34 W4 (S1 + 1) (fun _ => True) (.slice A4 n4 c4) (abvT m a (i + 1))) := by
              rw [hW4]; exact Kd.R_mono (Kd.R_far (Kd.R_bound HR2.out) (p := ⟨S1, 1, none⟩) (fun k hk => by have := hk.2.1; show k ≠ S1; omega) _) (fun _ _ => trivial)
            have v0 : W4.cell? ⟨w.heap.size, 0, none⟩ = some (.int .u32 a) := by
              rw [hW4, World.cell?_setCell_other _ _ _ _ (fun e => absurd (congrArg Addr.block e) (show S1 ≠ w.heap.size by have := hsl.out; omega))]; exact q0
            have v1 : W4.cell? ⟨w.heap.size, 1, none⟩ = some (.int .i64 N) := by
              rw [hW4, World.cell?_setCell_other _ _ _ _ (fun e => absurd (congrArg Addr.block e) (show S1 ≠ w.heap.size by have := hsl.out; omega))]; exact q1
            have hk : W4.cell? ⟨blk (wayA a i), 0, none⟩ = some (ptrT D blk (wayA a i ++ [false])) := HT4.out.nodes.kid hD false
            rw [hpt] at hk
            rw [show ((i : Int) + 1) = ((i + 1 : Nat) : Int) from rfl, ← hW4]
            clear hW4 R10b HB2 HT3 HR2 q0 q1 u1 f1 hpt
            go_wp2_with fail
            go_roundg (gk - 1)
            case measure => omega
            case rel => exact ⟨i + 1, rfl, by omega, by omega, v0, v1, R10c.out, HR5.out, HB5.out⟩
          | true =>
            have hbit : Hid (trie_bit.f a (i : Int) = some ((bitB a i).toNat : Int)) := tbit_ev a i h0 h1 (by omega)
            rw [hB] at hbit
            have hor := mkHid (adrA_or1 a i (by omega) h0 h1 hB)
            go_upto_region 10 with fail
            go_upto_region 11 with (first | (go_at_call 45; (with_reducible refine (trie_bit.calls a i ((true.toNat : Nat) : Int) _ hbit.out).mono ?_); rintro e w' ⟨rfl, ⟨nd, rfl⟩⟩; (try first | exact ⟨rfl, _, World.drewN_drewN _ _ _⟩)))
            go_region
            obtain ⟨W3, hW3⟩ : ∃ W3, W3 = (w3.drewN (nd + 1)).setCell ⟨S1, 0, none⟩ (.int .u32 (adrA a (i + 1))) := ⟨_, rfl⟩
            have R10b : Hid (W3.heap[S1]? = some (.cells #[.int .u32 (adrA a (i + 1)), .int .i64 i] 34 (0, 0))) := by
              rw [hW3]; exact blk_set (blk_drewN R10'.out _) 0 _
            have HB2 : Hid (Below w.heap.size w W3) := by
              rw [hW3]; exact (pw_below_drewN HB'.out _).setCell (show w.heap.size ≤ S1 by have := hsl.out; omega) _
            have HT3 := mkHid (G1.out.below HB2.out)
            have HR2 : Hid (Kd.R k34 34 W3 (S1 + 1) (fun _ => True) (.slice A4 n4 c4) (abvT m a (i + 1))) := by
              rw [hW3]; exact Kd.R_mono (Kd.R_far (Kd.R_bound (Kd.R_drewN HR'.out _)) (p := ⟨S1, 0, none⟩) (fun k hk => by have := hk.2.1; show k ≠ S1; omega) _) (fun _ _ => trivial)
            have q0 : W3.cell? ⟨w.heap.size, 0, none⟩ = some (.int .u32 a) := by
              rw [hW3, World.cell?_setCell_other _ _ _ _ (fun e => absurd (congrArg Addr.block e) (show S1 ≠ w.heap.size by have := hsl.out; omega))]; exact q0'
            have q1 : W3.cell? ⟨w.heap.size, 1, none⟩ = some (.int .i64 N) := by
              rw [hW3, World.cell?_setCell_other _ _ _ _ (fun e => absurd (congrArg Addr.block e) (show S1 ≠ w.heap.size by have := hsl.out; omega))]; exact q1'
            rw [hor.out, ← hW3]
            clear hW3 R10' HB' HR' q0' q1' u0 u1 f0 f1 HT hor
            have u1 : W3.cell? ⟨S1, 1, none⟩ = some (.int .i64 i) := blk_cell R10b.out 1
            have f1 : W3.frozen? ⟨S1, 1, none⟩ = false := blk_frozen R10b.out _
            have hwi : IntKind.i64.wrap ((i : Int) + 1) = ((i + 1 : Nat) : Int) := by rw [IntWalk.i64_in _ (by omega)]; omega
            have hpt : ptrT D blk (wayA a i ++ [true]) = ptrT D blk (wayA a (i + 1)) := by rw [wayA, hB]
            go_upto_region 13 with fail
            obtain ⟨W4, hW4⟩ : ∃ W4, W4 = W3.setCell ⟨S1, 1, none⟩ (.int .i64 ((i + 1 : Nat) : Int)) := ⟨_, rfl⟩
            have R10c : Hid (W4.heap[S1]? = some (.cells #[.int .u32 (adrA a (i + 1)), .int .i64 ((i + 1 : Nat) : Int)] 34 (0, 0))) := by rw [hW4]; exact blk_set R10b.out 1 _
            have HB5 : Hid (Below w.heap.size w W4) := by rw [hW4]; exact HB2.out.setCell (show w.heap.size ≤ S1 by have := hsl.out; omega) _
            have HT4 := mkHid (G1.out.below HB5.out)
            have HR5 : Hid (Kd.R k34 34 W4 (S1 + 1) (fun _ => True) (.slice A4 n4 c4) (abvT m a (i + 1))) := by
              rw [hW4]; exact Kd.R_mono (Kd.R_far (Kd.R_bound HR2.out) (p := ⟨S1, 1, none⟩) (fun k hk => by have := hk.2.1; show k ≠ S1; omega) _) (fun _ _ => trivial)
            have v0 : W4.cell? ⟨w.heap.size, 0, none⟩ = some (.int .u32 a) := by
              rw [hW4, World.cell?_setCell_other _ _ _ _ (fun e => absurd (congrArg Addr.block e) (show S1 ≠ w.heap.size by have := hsl.out; omega))]; exact q0
            have v1 : W4.cell? ⟨w.heap.size, 1, none⟩ = some (.int .i64 N) := by
              rw [hW4, World.cell?_setCell_other _ _ _ _ (fun e => absurd (congrArg Addr.block e) (show S1 ≠ w.heap.size by have := hsl.out; omega))]; exact q1
            have hk : W4.cell? ⟨blk (wayA a i), 1, none⟩ = some (ptrT D blk (wayA a i ++ [true])) := HT4.out.nodes.kid hD true
            rw [hpt] at hk
            rw [show ((i : Int) + 1) = ((i + 1 : Nat) : Int) from rfl, ← hW4]
            clear hW4 R10b HB2 HT3 HR2 q0 q1 u1 f1 hpt
            go_wp2_with fail
            go_roundg (gk - 1)
            case measure => omega
            case rel => exact ⟨i + 1, rfl, by omega, by omega, v0, v1, R10c.out, HR5.out, HB5.out⟩
end Go.Proofs.Ytnihacajjpcjeaa
