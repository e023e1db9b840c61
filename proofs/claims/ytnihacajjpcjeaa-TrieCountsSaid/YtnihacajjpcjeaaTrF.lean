/- Tries: find. -/
import Derived.Test.YtnihacajjpcjeaaTrB
import Derived.Test.YtnihacajjpcjeaaPx2
import Derived.Test.YtnihacajjpcjeaaPx6
namespace Go.Proofs.Ytnihacajjpcjeaa
open Go.RowKit Go.Proofs.Ytnihacajjpcjeaa.P Go.Proofs.YtnihacajjpcjeaaW.PrintWords Go.Proofs.YtnihacajjpcjeaaW.PrintLast Go.Proofs.YtnihacajjpcjeaaW.PrintMore
set_option linter.unusedVariables false
set_option linter.unusedSimpArgs false

def kI : TK Int := ⟨fun v => .int .i64 v, 0, 84, 75⟩

set_option maxHeartbeats 4000000 in
set_option maxRecDepth 100000 in
theorem find_nil (w : World) (a b : Int) :
    Calls Try.prog 42 #[.pointer none, .agg #[.int .u32 a, .int .i64 b]] w fun e w' => e = .returned (.pointer none) ∧ Below w.heap.size w w' := by
  go_enter Try.func42, Try.ntmps42
  go_wp2_with fail
  go_ret
  exact ⟨rfl, Below.alloc (Below.refl _ _) (Nat.le_refl _) _⟩

set_option maxHeartbeats 4000000 in
set_option maxRecDepth 100000 in
theorem find_not (w : World) (bt : Nat) (a b : Int) (hM : addr_May.f a b = some false) :
    Calls Try.prog 42 #[.pointer (some ⟨bt, 0, none⟩), .agg #[.int .u32 a, .int .i64 b]] w fun e w' => e = .returned (.pointer none) ∧ Below w.heap.size w w' := by
  have HM := mkHid hM
  clear hM
  go_enter Try.func42, Try.ntmps42
  go_wp2_with fail
  refine (addr_May.calls a b false _ HM.out).mono ?_
  rintro e w1 ⟨rfl, hb⟩
  have HB : Hid (Below w.heap.size w w1) := below_step (Below.alloc (Below.refl _ w) (Nat.le_refl _) _) hb
  clear hb
  go_wp2_with fail
  go_ret
  exact ⟨rfl, HB.out⟩

set_option maxHeartbeats 4000000 in
set_option maxRecDepth 100000 in
theorem find_calls (w : World) (bt : Nat) (n : Int) (D : Way → Bool) (m : Way → Option Int) (blk : Way → Nat) (hT : TrieAt kI w bt n D m blk) (a : Int) (N : Nat) (h0 : 0 ≤ a) (h1 : a < 4294967296) (b1 : N ≤ 32) (hM : addr_May.f a N = some true) :
    Calls Try.prog 42 #[.pointer (some ⟨bt, 0, none⟩), .agg #[.int .u32 a, .int .i64 N]] w fun e w' => e = .returned (ptrT D blk (wayA a N)) ∧ Below w.heap.size w w' := by
  have HM := mkHid hM
  have HT := mkHid hT
  have hbt := blk_lt hT.root
  clear hM hT
  go_enter Try.func42, Try.ntmps42
  go_wp2_with fail
  have hx0 : (w.alloc (.cells #[.int .u32 a, .int .i64 N] 34)).cell? ⟨w.heap.size, 0, none⟩ = some (.int .u32 a) := by go_simp
  have hx1 : (w.alloc (.cells #[.int .u32 a, .int .i64 N] 34)).cell? ⟨w.heap.size, 1, none⟩ = some (.int .i64 N) := by go_simp
  refine (addr_May.calls a N true _ HM.out).mono ?_
  rintro e w1 ⟨rfl, hb⟩
  have HB : Hid (Below w.heap.size w w1) := below_step (Below.alloc (Below.refl _ w) (Nat.le_refl _) _) hb
  have hs : w.heap.size < w1.heap.size := by have := hb.size; simp at this; omega
  have q0 : w1.cell? ⟨w.heap.size, 0, none⟩ = some (.int .u32 a) := (hb.cell (by simp)).trans hx0
  have q1 : w1.cell? ⟨w.heap.size, 1, none⟩ = some (.int .i64 N) := (hb.cell (by simp)).trans hx1
  have HT1 := mkHid (HT.out.below HB.out)
  have hc0 : w1.cell? ⟨bt, 0, none⟩ = some (ptrT D blk []) := HT1.out.cell0
  clear hb hx0 hx1
  go_wp2_with fail
  clear hc0
  go_loopg [5, 6] N (fun kq v5 v6 wr => ∃ i : Nat, v6 = .int .i64 i ∧ i ≤ N ∧ v5 = ptrT D blk (wayA a i) ∧ i + kq = N ∧ wr.cell? ⟨w.heap.size, 0, none⟩ = some (.int .u32 a) ∧ wr.cell? ⟨w.heap.size, 1, none⟩ = some (.int .i64 N) ∧ Hid (Below w1.heap.size w1 wr))
  case atStart => exact ⟨0, rfl, by omega, rfl, by omega, q0, q1, Below.refl _ _⟩
  case round =>
    clear q0 q1
    obtain ⟨i, rfl, hi, rfl, hk, q0, q1, HBR⟩ := hrel
    have HTR := mkHid (HT1.out.below HBR.out)
    have hfin : Hid (Below w.heap.size w wr) := below_step HB.out HBR.out
    by_cases hin : i < N
    · have c1 : decide ((i : Int) < (N : Int)) = true := decide_eq_true (by omega)
      cases hD : D (wayA a i) with
      | false =>
        have hres : ptrT D blk (wayA a N) = .pointer none := by
          refine ptrT_none ?_
          obtain ⟨ρ, hρ⟩ := wayA_split a hi
          cases hd : D (wayA a N) with
          | false => rfl
          | true => rw [hρ] at hd; rw [HTR.out.nodes.ups ρ _ hd] at hD; cases hD
        rw [ptrT_none hD]
        go_wp2_with fail
        go_ret
        exact ⟨by rw [hres]; rfl, hfin.out⟩
      | true =>
        rw [ptrT_some hD]
        have hk0 : wr.cell? ⟨blk (wayA a i), 0, none⟩ = some (ptrT D blk (wayA a i ++ [false])) := HTR.out.nodes.kid hD false
        have hk1 : wr.cell? ⟨blk (wayA a i), 1, none⟩ = some (ptrT D blk (wayA a i ++ [true])) := HTR.out.nodes.kid hD true
        have hw : IntKind.i64.wrap ((i : Int) + 1) = ((i + 1 : Nat) : Int) := by rw [IntWalk.i64_in _ (by omega)]; omega
        have hbit : Hid (trie_bit.f a (i : Int) = some ((bitB a i).toNat : Int)) := tbit_ev a i h0 h1 (by omega)
        cases hB : bitB a i with
        | false =>
          rw [hB] at hbit
          go_upto_region 7 with fail
          go_quiet ((first | (go_at_call 45; (with_reducible refine (trie_bit.calls a i ((false.toNat : Nat) : Int) _ hbit.out).mono ?_); rintro e w' ⟨rfl, ⟨nd, rfl⟩⟩; (try first | exact ⟨rfl, _, World.drewN_drewN _ _ _⟩))))
          go_wp2_with fail
          go_roundg (gk - 1)
          case measure => omega
          case rel => exact ⟨i + 1, rfl, by omega, congrArg (ptrT D blk) (show _ = wayA a (i + 1) by rw [wayA, hB]), by omega, q0, q1, pw_below_drewN HBR.out _⟩
        | true =>
          rw [hB] at hbit
          go_upto_region 7 with fail
          go_quiet ((first | (go_at_call 45; (with_reducible refine (trie_bit.calls a i ((true.toNat : Nat) : Int) _ hbit.out).mono ?_); rintro e w' ⟨rfl, ⟨nd, rfl⟩⟩; (try first | exact ⟨rfl, _, World.drewN_drewN _ _ _⟩))))
          go_wp2_with fail
          go_roundg (gk - 1)
          case measure => omega
          case rel => exact ⟨i + 1, rfl, by omega, congrArg (ptrT D blk) (show _ = wayA a (i + 1) by rw [wayA, hB]), by omega, q0, q1, pw_below_drewN HBR.out _⟩
    · obtain rfl : i = N := by omega
      have c1 : decide ((i : Int) < (i : Int)) = false := decide_eq_false (by omega)
      go_wp2_with fail
      go_ret
      exact ⟨rfl, hfin.out⟩
end Go.Proofs.Ytnihacajjpcjeaa
