/- plist.samples' closures: a prefix of so many bits is cut off an address and put behind a row; the comparison. -/
import Derived.Test.YtndcjncamdhbfaaHid
import Derived.Test.YtndcjncamdhbfaaKdW
import Derived.Test.YtndcjncamdhbfaaPMy0
import Derived.Laws.OwnMore
import Derived.Test.YtndcjncamdhbfaaPx0
namespace Go.Proofs.Ytndcjncamdhbfaa.P
open Go.RowKit Go.Proofs.YtndcjncamdhbfaaW.PrintWords Go.Proofs.YtndcjncamdhbfaaW.PrintLast Go.Proofs.YtndcjncamdhbfaaW.PrintMore
set_option linter.unusedVariables false
set_option linter.unusedSimpArgs false

/-- the beginning of what has so many bits -/
def floS (a v : Int) : Int := a - a % un v
theorem land_low (n x : Nat) (h : x % 2 ^ n ≠ 0) : (x &&& (x - 1)) / 2 ^ n = x / 2 ^ n ∧ (x &&& (x - 1)) < x := by
  have hp : 0 < 2 ^ n := Nat.two_pow_pos n
  have h1 : (x - 1) / 2 ^ n = x / 2 ^ n := by
    have e := Nat.div_add_mod x (2 ^ n)
    have hr : x % 2 ^ n < 2 ^ n := Nat.mod_lt _ hp
    have : x - 1 = 2 ^ n * (x / 2 ^ n) + (x % 2 ^ n - 1) := by omega
    have e0 : (x % 2 ^ n - 1) / 2 ^ n = 0 := Nat.div_eq_of_lt (by omega)
    rw [this, Nat.mul_add_div hp, e0, Nat.add_zero]
  refine ⟨by rw [Nat.and_div_two_pow, h1, Nat.and_self], ?_⟩
  have h2 : x ≠ 0 := fun e => by rw [e] at h; simp at h
  have h3 : x &&& (x - 1) ≤ x - 1 := Nat.and_le_right
  omega
theorem and_dec (a : Int) (b : Int) (ha : isA a) (hb : 0 ≤ b) (h : a % un b ≠ 0) : isA (Go.bits .and .u32 a (a - 1)) ∧ Go.bits .and .u32 a (a - 1) < a ∧ floS (Go.bits .and .u32 a (a - 1)) b = floS a b := by
  obtain ⟨x, rfl⟩ := Int.eq_ofNat_of_zero_le ha.1
  have hx : x < 4294967296 := by have := ha.2; omega
  have hun : un b = ((2 ^ (32 - b).toNat : Nat) : Int) := by unfold un; simp
  have hm : x % 2 ^ (32 - b).toNat ≠ 0 := by
    intro e
    apply h
    rw [hun]
    have : (((x % 2 ^ (32 - b).toNat : Nat)) : Int) = (x : Int) % ((2 ^ (32 - b).toNat : Nat) : Int) := by simp
    rw [← this, e]; rfl
  have hx0 : x ≠ 0 := fun e => by rw [e] at hm; simp at hm
  have hv : Go.bits .and .u32 (x : Int) ((x : Int) - 1) = ((x &&& (x - 1) : Nat) : Int) := by
    show IntKind.u32.wrap ((BitVec.ofInt 32 (x : Int) &&& BitVec.ofInt 32 ((x : Int) - 1)).toNat : Int) = _
    rw [show ((x : Int) - 1) = ((x - 1 : Nat) : Int) by omega, IntKind.wrap_u32, ofN, ofN, BitVec.toNat_and, BitVec.toNat_ofNat, BitVec.toNat_ofNat]
    have e1 : x % 2 ^ 32 = x := Nat.mod_eq_of_lt (by omega)
    have e2 : (x - 1) % 2 ^ 32 = x - 1 := Nat.mod_eq_of_lt (by omega)
    rw [e1, e2]
    have h3 : x &&& (x - 1) ≤ x - 1 := Nat.and_le_right
    omega
  obtain ⟨l1, l2⟩ := land_low (32 - b).toNat x hm
  rw [hv]
  refine ⟨?_, by omega, ?_⟩
  · unfold isA; omega
  · unfold floS
    rw [hun]
    have e1 := Int.emod_add_mul_ediv ((x &&& (x - 1) : Nat) : Int) ((2 ^ (32 - b).toNat : Nat) : Int)
    have e2 := Int.emod_add_mul_ediv (x : Int) ((2 ^ (32 - b).toNat : Nat) : Int)
    have e3 : ((x &&& (x - 1) : Nat) : Int) / ((2 ^ (32 - b).toNat : Nat) : Int) = (x : Int) / ((2 ^ (32 - b).toNat : Nat) : Int) := by
      rw [← Int.natCast_ediv, ← Int.natCast_ediv, l1]
    rw [e3] at e1
    omega
theorem floS_isA (a v : Int) (ha : isA a) : isA (floS a v) := by
  have hp := un_pos v
  have h1 := Int.emod_nonneg a (show un v ≠ 0 by omega)
  have h2 := Int.emod_add_mul_ediv a (un v)
  have h3 : 0 ≤ un v * (a / un v) := Int.mul_nonneg (by omega) (Int.ediv_nonneg ha.1 (by omega))
  have := ha.1; have := ha.2
  unfold floS; constructor <;> omega
/-- what the closure keeps: the number of bits, and the row behind its pointer -/
structure SmpSt (w W : World) (bits : Int) (v : Value) (xs : List S24) : Prop where
  bel : Below w.heap.size w W
  siz : w.heap.size + 1 < W.heap.size
  hb : W.heap[w.heap.size]? = some (.cells #[.int .i64 bits] 3 (0, 0))
  ho : W.heap[w.heap.size + 1]? = some (.cells #[v] 44 (0, 0))
  row : Kd.R k24 24 W w.heap.size (fun _ => True) v xs
theorem smp_info : (Try.prog.info? 24).map (fun i => (i.zero, i.size, i.bytes)) = some (some (.agg #[.int .u32 0, .int .i64 0]), 2, 16) := by kernel_rfl
set_option maxHeartbeats 4000000 in
set_option maxRecDepth 100000 in
theorem cut_calls (w W : World) (a bits : Int) (v : Value) (xs : List S24) (ha : isA a) (b0 : 0 ≤ bits) (b1 : bits ≤ 32) (hS : SmpSt w W bits v xs) (hl : xs.length ≤ 1000000) (q : Nat) (cs : Array Value) (ty : TypeId) (hty : 24 ≠ ty) (hqn : q ≠ w.heap.size + 1) (hq : W.heap[q]? = some (.cells cs ty (0, 0))) :
    Calls Try.prog 50 #[.int .u32 a, .pointer (some ⟨w.heap.size, 0, none⟩), .pointer (some ⟨w.heap.size + 1, 0, none⟩)] W fun e w' => e = .returned (.tuple #[]) ∧ w'.heap[q]? = some (.cells cs ty (0, 0)) ∧ ∃ v', SmpSt w w' bits v' (xs ++ [⟨floS a bits, bits⟩]) := by
  obtain ⟨hbel, hsiz, hhb, hho, hrow⟩ := hS
  have hcb : W.cell? ⟨w.heap.size, 0, none⟩ = some (.int .i64 bits) := (blk_cell hhb 0).trans rfl
  have HH := mkHid hhb
  clear hhb
  obtain ⟨A0, c0, hv⟩ := Kd.R_slice hrow
  obtain ⟨n0, hn0⟩ : ∃ n0 : Nat, n0 = xs.length := ⟨_, rfl⟩
  rw [← hn0] at hv
  subst hv
  have HN0 := mkHid hn0
  clear hn0
  have hqlt := blk_lt hq
  have HQ0 := mkHid hq
  have HTY := mkHid hty
  have HQN := mkHid hqn
  clear hq hty hqn
  have HB := mkHid hbel
  have HO := mkHid hho
  have HR := mkHid hrow
  have HL := mkHid hl
  have HA := mkHid ha
  clear hbel hho hrow hl ha
  go_enter Try.func50, Try.ntmps50
  obtain ⟨y, hy⟩ : ∃ y : Int, y = 32 - bits := ⟨_, rfl⟩
  have hw : IntKind.i64.wrap (32 - bits) = y := by rw [hy]; exact IntWalk.i64_in _ (by omega)
  have hw' : wrap64 (32 - bits) = y := by rw [← i64_w]; exact hw
  have y0 : 0 ≤ y := by omega
  have y1 : y ≤ 32 := by omega
  obtain ⟨M, hM⟩ : ∃ M : Int, M = 4294967296 - un bits := ⟨_, rfl⟩
  have hu : un bits = 2 ^ y.toNat := by unfold un; rw [hy]
  have hs := shl_all y.toNat (by omega)
  rw [show ((y.toNat : Nat) : Int) = y by omega] at hs
  have hs1 : IntKind.u32.wrap (4294967295 * 2 ^ min y.toNat 32) = M := by rw [hM, hu]; exact hs
  have hs2 : IntKind.u32.wrap (4294967295 * 2 ^ y.toNat) = M := by rw [← hs1, Nat.min_eq_left (by omega)]
  have hs3 : 4294967295 * 2 ^ min y.toNat 32 % 4294967296 = M := by rw [← hs1, IntKind.wrap_u32]
  have hs4 : 4294967295 * 2 ^ y.toNat % 4294967296 = M := by rw [← hs2, IntKind.wrap_u32]
  have hand : ∀ c : Int, isA c → Go.bits .andNot .u32 c M = c % un bits := by
    intro c hc
    rw [hM, hu]
    exact andNot_mask c y.toNat hc.1 (by have := hc.2; omega) (by omega)
  have HAND := mkHid hand
  have HU := mkHid hu
  have HY := mkHid hy
  clear hs hand hu hM hy
  go_wp2_with fail
  go_loopg [9] a.toNat (fun kq v9 wr => ∃ (c : Int), kq = c.toNat ∧ Hid (wr.heap[W.heap.size]? = some (.cells #[.int .u32 c, .int .i64 bits] 24 (0, 0))) ∧ Hid (isA c) ∧ Hid (floS c bits = floS a bits) ∧ Hid (Below W.heap.size W wr))
  case atStart => exact ⟨a, rfl, heap_alloc_new _ _, HA.out, rfl, (Below.refl _ _).alloc (Nat.le_refl _) _⟩
  case round =>
    obtain ⟨c, hkq, HC, HA2, HF, HB2⟩ := hrel
    have k0 : wr.cell? ⟨W.heap.size, 0, none⟩ = some (.int .u32 c) := (blk_cell HC.out 0).trans rfl
    have k1 : wr.cell? ⟨W.heap.size, 1, none⟩ = some (.int .i64 bits) := (blk_cell HC.out 1).trans rfl
    have kf := blk_frozen HC.out 0
    have kb : wr.cell? ⟨w.heap.size, 0, none⟩ = some (.int .i64 bits) := pw_cell_below HB2.out hcb
    have hq := HAND.out c HA2.out
    have hgo : w.heap.size + 1 < W.heap.size := hsiz
    have kg : wr.cell? ⟨w.heap.size + 1, 0, none⟩ = some (.slice A0 n0 c0) := pw_cell_below HB2.out ((blk_cell HO.out 0).trans rfl)
    by_cases hz : c % un bits = 0
    · have q1 : (c % un bits == 0) = true := beq_iff_eq.2 hz
      have q2 : (c % un bits != 0) = false := by rw [bne, q1]; rfl
      have HZ := mkHid hz
      clear hz
      go_upto_region 1 with fail
      go_quiet (fail)
      by_cases hb0 : bits = 0
      · subst hb0
        have HBX : Hid (Below W.heap.size W ((wr.drewN nq).setCell ⟨W.heap.size, 0, none⟩ (.int .u32 0))) := below_set (pw_below_drewN HB2.out nq) (Nat.le_refl _)
        have HRX : Hid (Kd.R k24 24 ((wr.drewN nq).setCell ⟨W.heap.size, 0, none⟩ (.int .u32 0)) w.heap.size (fun _ => True) (.slice A0 n0 c0) xs) := Kd.R_below HR.out HBX.out
        have HBW : Hid (Below w.heap.size w ((wr.drewN nq).setCell ⟨W.heap.size, 0, none⟩ (.int .u32 0))) := below_step HB.out HBX.out
        go_wp2_with (at_builtin; refine Kd.R_append k24 (w0 := w) w.heap.size ?a1 (.tmp 25) (.tmp 27) 44 24 (.agg #[.int .u32 0, .int .i64 0]) 16 ?a2 ?a3 ?a4 ?a5 ?a6 ?a7 (.slice A0 n0 c0) xs (⟨0, 0⟩ : S24) [.int .u32 0, .int .i64 0] (fun _ => True) (fun _ => False) ?a8 ?a9 ?aP ?aE ?aF ?aO ?aB ?aS ?aL ?_; (case a1 => rfl); (case a2 => rfl); (case a3 => exact Try.underlying44); (case a4 => exact smp_info); (case a5 => rfl); (case a6 => decide); (case a7 => omega); (case a8 => rfl); (case a9 => (first | rfl | go_simp)); (case aP => exact k24_mkM _ _ _ (⟨0, 0⟩ : S24)); (case aE => exact fun _ h => h.elim); (case aF => exact fun _ _ => trivial); (case aO => exact HRX.out); (case aB => exact HBW.out); (case aS => exact HBW.out.size); (case aL => (have := HL.out; omega)); intro v1 w3 hR3 hB3 hg hat; obtain ⟨A4, c4, h4⟩ := Kd.R_slice hR3; obtain ⟨n4, hn4⟩ : ∃ n4 : Nat, n4 = (xs ++ [(⟨0, 0⟩ : S24)]).length := ⟨_, rfl⟩; rw [← hn4] at h4; subst h4; clear hn4; have k3 : w3.heap[w.heap.size + 1]? = some (.cells #[.slice A0 n0 c0] 44 (0, 0)) := (by rw [hg.block _ (by have := HBX.out.size; first | omega | (simp; omega)) (Kd.R_ne HR.out HO.out (by decide))]; first | exact (HBX.out.block _ hgo).trans HO.out | (rw [Below.heap_alloc _ _ _ (by have := HBX.out.size; omega)]; exact (HBX.out.block _ hgo).trans HO.out)); have HR3 := mkHid hR3; have HB3 := mkHid hB3; have K3 := mkHid k3; have kc3 : w3.cell? ⟨w.heap.size + 1, 0, none⟩ = some (.slice A0 n0 c0) := (blk_cell k3 0).trans rfl; have kf3 := blk_frozen k3 0; have hcb3 : w3.heap[w.heap.size]? = some (.cells #[.int .i64 0] 3 (0, 0)) := (by rw [hg.block _ (by have := HBX.out.size; first | omega | (simp; omega)) (Kd.R_ne HR.out HH.out (by decide))]; first | exact (HBX.out.block _ (by omega)).trans HH.out | (rw [Below.heap_alloc _ _ _ (by have := HBX.out.size; omega)]; exact (HBX.out.block _ (by omega)).trans HH.out)); have H3 := mkHid hcb3; have hq3 : w3.heap[q]? = some (.cells cs ty (0, 0)) := (by rw [hg.block _ (by have := HBX.out.size; first | omega | (simp; omega)) (Kd.R_ne HR.out HQ0.out HTY.out)]; first | exact (HBX.out.block _ (by omega)).trans HQ0.out | (rw [Below.heap_alloc _ _ _ (by have := HBX.out.size; omega)]; exact (HBX.out.block _ (by omega)).trans HQ0.out)); have HQ3 := mkHid hq3; clear hq3; clear hR3 hB3 hg hat k3 hcb3)
        go_end0
        refine ⟨rfl, blk_far HQ3.out HQN.out _, .slice A4 n4 c4, ?_⟩
        have hP : (⟨0, 0⟩ : S24) = ⟨floS a 0, 0⟩ := (by have e : floS a 0 = 0 := (by unfold floS; have h1 : un 0 = 4294967296 := rfl; rw [h1]; have := HA.out.1; have := HA.out.2; omega); rw [e])
        rw [← hP]
        exact ⟨HB3.out.setCell (by show w.heap.size ≤ w.heap.size + 1; omega) _, blk_lt (blk_put K3.out 0 _ rfl), blk_far H3.out (by show w.heap.size ≠ w.heap.size + 1; omega) _, blk_put K3.out 0 _ rfl, Kd.R_set HR3.out K3.out (by decide) 0 _⟩
      · have q3 : (bits == 0) = false := beq_eq_false_iff_ne.2 hb0
        have HBX : Hid (Below W.heap.size W (wr.drewN nq)) := pw_below_drewN HB2.out nq
        have HRX : Hid (Kd.R k24 24 (wr.drewN nq) w.heap.size (fun _ => True) (.slice A0 n0 c0) xs) := Kd.R_below HR.out HBX.out
        have HBW : Hid (Below w.heap.size w (wr.drewN nq)) := below_step HB.out HBX.out
        go_wp2_with (at_builtin; refine Kd.R_append k24 (w0 := w) w.heap.size ?a1 (.tmp 25) (.tmp 27) 44 24 (.agg #[.int .u32 0, .int .i64 0]) 16 ?a2 ?a3 ?a4 ?a5 ?a6 ?a7 (.slice A0 n0 c0) xs (⟨c, bits⟩ : S24) [.int .u32 c, .int .i64 bits] (fun _ => True) (fun _ => False) ?a8 ?a9 ?aP ?aE ?aF ?aO ?aB ?aS ?aL ?_; (case a1 => rfl); (case a2 => rfl); (case a3 => exact Try.underlying44); (case a4 => exact smp_info); (case a5 => rfl); (case a6 => decide); (case a7 => omega); (case a8 => rfl); (case a9 => (first | rfl | go_simp)); (case aP => exact k24_mkM _ _ _ (⟨c, bits⟩ : S24)); (case aE => exact fun _ h => h.elim); (case aF => exact fun _ _ => trivial); (case aO => exact HRX.out); (case aB => exact HBW.out); (case aS => exact HBW.out.size); (case aL => (have := HL.out; omega)); intro v1 w3 hR3 hB3 hg hat; obtain ⟨A4, c4, h4⟩ := Kd.R_slice hR3; obtain ⟨n4, hn4⟩ : ∃ n4 : Nat, n4 = (xs ++ [(⟨c, bits⟩ : S24)]).length := ⟨_, rfl⟩; rw [← hn4] at h4; subst h4; clear hn4; have k3 : w3.heap[w.heap.size + 1]? = some (.cells #[.slice A0 n0 c0] 44 (0, 0)) := (by rw [hg.block _ (by have := HBX.out.size; first | omega | (simp; omega)) (Kd.R_ne HR.out HO.out (by decide))]; first | exact (HBX.out.block _ hgo).trans HO.out | (rw [Below.heap_alloc _ _ _ (by have := HBX.out.size; omega)]; exact (HBX.out.block _ hgo).trans HO.out)); have HR3 := mkHid hR3; have HB3 := mkHid hB3; have K3 := mkHid k3; have kc3 : w3.cell? ⟨w.heap.size + 1, 0, none⟩ = some (.slice A0 n0 c0) := (blk_cell k3 0).trans rfl; have kf3 := blk_frozen k3 0; have hcb3 : w3.heap[w.heap.size]? = some (.cells #[.int .i64 bits] 3 (0, 0)) := (by rw [hg.block _ (by have := HBX.out.size; first | omega | (simp; omega)) (Kd.R_ne HR.out HH.out (by decide))]; first | exact (HBX.out.block _ (by omega)).trans HH.out | (rw [Below.heap_alloc _ _ _ (by have := HBX.out.size; omega)]; exact (HBX.out.block _ (by omega)).trans HH.out)); have H3 := mkHid hcb3; have hq3 : w3.heap[q]? = some (.cells cs ty (0, 0)) := (by rw [hg.block _ (by have := HBX.out.size; first | omega | (simp; omega)) (Kd.R_ne HR.out HQ0.out HTY.out)]; first | exact (HBX.out.block _ (by omega)).trans HQ0.out | (rw [Below.heap_alloc _ _ _ (by have := HBX.out.size; omega)]; exact (HBX.out.block _ (by omega)).trans HQ0.out)); have HQ3 := mkHid hq3; clear hq3; clear hR3 hB3 hg hat k3 hcb3)
        go_end0
        refine ⟨rfl, blk_far HQ3.out HQN.out _, .slice A4 n4 c4, ?_⟩
        have hP : (⟨c, bits⟩ : S24) = ⟨floS a bits, bits⟩ := (by have e : floS c bits = c := (by unfold floS; rw [HZ.out]; omega); rw [← HF.out, e])
        rw [← hP]
        exact ⟨HB3.out.setCell (by show w.heap.size ≤ w.heap.size + 1; omega) _, blk_lt (blk_put K3.out 0 _ rfl), blk_far H3.out (by show w.heap.size ≠ w.heap.size + 1; omega) _, blk_put K3.out 0 _ rfl, Kd.R_set HR3.out K3.out (by decide) 0 _⟩
    · have q1 : (c % un bits == 0) = false := beq_eq_false_iff_ne.2 hz
      have q2 : (c % un bits != 0) = true := by rw [bne, q1]; rfl
      obtain ⟨d1, d2, d3⟩ := and_dec c bits HA2.out b0 hz
      have hc1 : 1 ≤ c := by
        have := HA2.out.1
        rcases Int.lt_or_le 0 c with h | h
        · omega
        · have : c = 0 := by omega
          rw [this] at hz; exact absurd (Int.zero_emod _) hz
      have hwc : IntKind.u32.wrap (c - 1) = c - 1 := by rw [IntKind.wrap_u32]; have := HA2.out.2; omega
      have hwc' : (c - 1) % 4294967296 = c - 1 := by have := HA2.out.2; omega
      have D1 := mkHid d1
      have D3 := mkHid d3
      have hm : (Go.bits .and .u32 c (c - 1)).toNat < c.toNat := by have := d1.1; omega
      clear d1 d3 hz
      go_upto_region 1 with fail
      go_quiet (fail)
      go_wp2_with fail
      go_roundg ((Go.bits .and .u32 c (c - 1)).toNat)
      case measure => omega
      case rel => exact ⟨_, rfl, blk_put (blk_drewN HC.out nq) 0 _ rfl, D1.out, D3.out.trans HF.out, below_set (pw_below_drewN HB2.out nq) (Nat.le_refl _)⟩
end Go.Proofs.Ytndcjncamdhbfaa.P
