/- Tries: the law TrieNils. -/
import Derived.Test.YtnihacajjpcjeaaTrN
import Derived.Test.YtnihacajjpcjeaaPx1
import Derived.Test.YtnihacajjpcjeaaPx2
namespace Go.Proofs.Ytnihacajjpcjeaa
open Go.RowKit Go.Proofs.Ytnihacajjpcjeaa.P Go.Proofs.YtnihacajjpcjeaaW.PrintWords Go.Proofs.YtnihacajjpcjeaaW.PrintLast Go.Proofs.YtnihacajjpcjeaaW.PrintMore
set_option linter.unusedVariables false
set_option linter.unusedSimpArgs false

def C7 (t g : Nat) (a b : Int) (w : World) : Prop := w.cell? ⟨t, 2, none⟩ = some (.int .u32 a) ∧ w.cell? ⟨t, 3, none⟩ = some (.int .i64 b) ∧ w.cell? ⟨g, 0, none⟩ = some (.int .u32 0) ∧ w.cell? ⟨g, 1, none⟩ = some (.int .i64 0)
theorem cell_keep {X w' : World} (h : Below X.heap.size X w') {p : Addr} {v : Value} (hc : X.cell? p = some v) : w'.cell? p = some v := (h.cell (World.block_lt_of_cell? _ _ hc)).trans hc
theorem keepC {P : Program} {f : FuncId} {args : Array Value} {X : World} {Q : Ending → Prop} (h : Calls P f args X fun e w' => Q e ∧ Below X.heap.size X w') {t g : Nat} {a b : Int} (hs : C7 t g a b X) :
    Calls P f args X fun e w' => Q e ∧ C7 t g a b w' ∧ Below X.heap.size X w' := by
  refine h.mono ?_
  rintro e w' ⟨hq, hb⟩
  exact ⟨hq, ⟨cell_keep hb hs.1, cell_keep hb hs.2.1, cell_keep hb hs.2.2.1, cell_keep hb hs.2.2.2⟩, hb⟩
theorem len_nil' (w : World) : Calls Try.prog 17 #[.pointer none] w fun e w' => e = .returned (.int .i64 0) ∧ Below w.heap.size w w' := by
  refine (len_nil w).mono ?_
  rintro e w' ⟨rfl, rfl⟩
  exact ⟨rfl, Below.refl _ _⟩

theorem Tri.kb {V : Type} {K : TK V} {w w' : World} {bt : Nat} {own own' : Nat → Prop} {n : Int} {m : Way → Option V} (h : Tri K w bt own n m) (hk : Kb own' w w') (ho : ∀ b, own b → ¬ own' b) : Tri K w' bt own n m := by
  obtain ⟨D, blk, h1, h2, h3, h4⟩ := h
  refine ⟨D, blk, ⟨h1.nodes.keep (fun π hp => hk.block _ (h1.nodes.lt hp) (ho _ (h4 π hp))), (hk.block _ (blk_lt h1.root) (ho _ h3)).trans h1.root, h1.ne⟩, h2, h3, h4⟩
theorem Kb.cell {own : Nat → Prop} {w w' : World} (hk : Kb own w w') {p : Addr} {v : Value} (hc : w.cell? p = some v) (ho : ¬ own p.block) : w'.cell? p = some v := by
  have hb := hk.block _ (World.block_lt_of_cell? _ _ hc) ho
  unfold World.cell? at hc ⊢; rw [hb]; exact hc
theorem putS_may (w : World) (bt : Nat) (own : Nat → Prop) (n : Int) (m : Way → Option ByteArray) (hT : Tri kS w bt own n m) (a b : Int) (v : ByteArray) (h0 : 0 ≤ a) (h1 : a < 4294967296) (n0 : 0 ≤ n) (n1 : n < 1000000) (hM : addr_May.f a b = some true) (n' : Int) (hn' : n' = if (m (wayA a b.toNat)).isSome = true then n else n + 1) :
    Calls Try.prog 36 #[.pointer (some ⟨bt, 0, none⟩), .agg #[.int .u32 a, .int .i64 b], .string v] w fun e w' => e = .returned (.tuple #[.bool (m (wayA a b.toNat)).isSome, .int .i64 0]) ∧
      Tri kS w' bt (ownN own w w') n' (putM m (wayA a b.toNat) (some v)) ∧ Kb own w w' := by
  obtain ⟨b0, b1⟩ := may_bits hM
  obtain ⟨N, rfl⟩ : ∃ N : Nat, b = N := ⟨b.toNat, by omega⟩
  exact putS_calls w bt own n m hT a N v h0 h1 (by omega) n0 n1 hM n' hn'
set_option maxHeartbeats 16000000 in
set_option maxRecDepth 100000 in
theorem nils_calls (w : World) (kd vv a b A : Int) (k : Nat) (r : Bool) (h0 : 0 ≤ a) (h1 : a < 4294967296) (hM : addr_May.f a b = some r) (hM2 : whirligigref01_May.f k a b = some r) :
    Calls Try.prog 8 #[.agg #[.int .i64 kd, .int .i64 vv, .int .u32 a, .int .i64 b, .int .u32 A]] w fun e w' => e = .returned (.bool true) ∧ Below w.heap.size w w' := by
  have HM := mkHid hM
  have HM2 := mkHid hM2
  clear hM hM2
  obtain ⟨W, hW⟩ : ∃ W, W = w.alloc (.cells #[.int .i64 kd, .int .i64 vv, .int .u32 a, .int .i64 b, .int .u32 A] 61) := ⟨_, rfl⟩
  have q2 : W.cell? ⟨w.heap.size, 2, none⟩ = some (.int .u32 a) := by rw [hW]; go_simp
  have q3 : W.cell? ⟨w.heap.size, 3, none⟩ = some (.int .i64 b) := by rw [hW]; go_simp
  have q4 : W.cell? ⟨w.heap.size, 4, none⟩ = some (.int .u32 A) := by rw [hW]; go_simp
  have HB : Hid (Below w.heap.size w W) := by rw [hW]; exact Below.alloc (Below.refl _ w) (Nat.le_refl _) _
  go_enter Try.func8, Try.ntmps8
  go_upto_region 2 with fail
  rw [← hW]
  clear hW
  go_wp2_with fail
  refine (put_nil _ a b 1).mono ?_
  rintro e w1 ⟨rfl, hb⟩
  have HB1 := mkHid (below_step HB.out hb)
  have r2 := cell_keep hb q2
  have r3 := cell_keep hb q3
  have r4 := cell_keep hb q4
  clear hb HB q2 q3 q4
  go_wp2_with fail
  refine (get_nil _ a b).mono ?_
  rintro e w2 ⟨rfl, hb⟩
  have HB2 := mkHid (below_step HB1.out hb)
  have q2 := cell_keep hb r2
  have q3 := cell_keep hb r3
  have q4 := cell_keep hb r4
  clear hb HB1 r2 r3 r4
  go_wp2_with fail
  refine (lng_nil _ A).mono ?_
  rintro e w3 ⟨rfl, hb⟩
  have HB3 := mkHid (below_step HB2.out hb)
  have r2 := cell_keep hb q2
  have r3 := cell_keep hb q3
  clear hb HB2 q2 q3 q4
  go_upto_region 5 with fail
  obtain ⟨W, hW⟩ : ∃ W, W = w3.alloc (.cells #[.int .u32 0, .int .i64 0] 34) := ⟨_, rfl⟩
  have hb : Below w3.heap.size w3 W := by rw [hW]; exact Below.alloc (Below.refl _ w3) (Nat.le_refl _) _
  have q2 := cell_keep hb r2
  have q3 := cell_keep hb r3
  have p0 : W.cell? ⟨w3.heap.size, 0, none⟩ = some (.int .u32 0) := by rw [hW]; go_simp
  have p1 : W.cell? ⟨w3.heap.size, 1, none⟩ = some (.int .i64 0) := by rw [hW]; go_simp
  have HB4 := mkHid (below_step HB3.out hb)
  rw [← hW]
  obtain ⟨g, hg⟩ : ∃ g, g = w3.heap.size := ⟨_, rfl⟩
  rw [← hg] at p0 p1 ⊢
  clear hW hb hg HB3 r2 r3
  go_wp2_with fail
  refine (each_nil _ _).mono ?_
  rintro e w5 ⟨rfl, hb⟩
  have HB5 := mkHid (below_step HB4.out hb)
  have HC : Hid (C7 w.heap.size g a b w5) := ⟨cell_keep hb q2, cell_keep hb q3, cell_keep hb p0, cell_keep hb p1⟩
  clear hb HB4 q2 q3 p0 p1
  go_upto_region 6 with fail
  obtain ⟨q2, q3, p0, p1⟩ := HC.out
  have heq := fun X : World => eqA34 9998 X 0 0 0 0
  go_region_held3 (fun w' => w'.cell? ⟨w.heap.size, 2, none⟩ = some (.int .u32 a) ∧ w'.cell? ⟨w.heap.size, 3, none⟩ = some (.int .i64 b) ∧ w'.cell? ⟨g, 0, none⟩ = some (.int .u32 0) ∧ w'.cell? ⟨g, 1, none⟩ = some (.int .i64 0)) (go_keep)
    (first | (go_at_call 18; refine (keepC (drop_nil _ a b) (by exact HC.out)).mono ?_; rintro e w6 ⟨rfl, hs6, hb6⟩; obtain ⟨x0, x1, x2, x3⟩ := id hs6) | (go_at_call 20; refine (keepC (above_nil _ a b) (by exact hs6)).mono ?_; rintro e w7 ⟨rfl, hs7, hb7⟩; obtain ⟨x0, x1, x2, x3⟩ := id hs7) | (go_at_call 26; refine (keepC (below_nil _ a b) (by exact hs7)).mono ?_; rintro e w8 ⟨rfl, hs8, hb8⟩; obtain ⟨x0, x1, x2, x3⟩ := id hs8) | (go_at_call 17; refine (keepC (len_nil' _) (by exact hs8)).mono ?_; rintro e w9 ⟨rfl, hs9, hb9⟩; obtain ⟨x0, x1, x2, x3⟩ := id hs9))
  all_goals
    have HB9 := mkHid (below_step (below_step (below_step (below_step (below_drew HB5.out) hb6) hb7) hb8) hb9)
    clear hs6 hs7 hs8 hs9 hb6 hb7 hb8 hb9 HC HB5 heq q2 q3 p0 p1
    go_wp2_with fail
    refine (newS_calls _).mono ?_
    rintro e wa ⟨rfl, hsa, hTa, hBa⟩
    have z2 := cell_keep hBa x0
    have z3 := cell_keep hBa x1
    have HBa := mkHid (below_step HB9.out hBa)
    have HTa := mkHid hTa
    have hsz : w.heap.size < w9.heap.size := World.block_lt_of_cell? _ _ x0
    clear hTa hBa x0 x1 x2 x3 HB9
    go_wp2_with fail
    refine (newS_calls _).mono ?_
    rintro e wb ⟨rfl, hsb, hTb, hBb⟩
    have HTa2 := mkHid (HTa.out.below hBb)
    have HTb := mkHid hTb
    have y2 := cell_keep hBb z2
    have y3 := cell_keep hBb z3
    have HBb := mkHid (below_step HBa.out hBb)
    clear hTb hBb z2 z3 HTa HBa
    have e0 : look false (fun _ => none : Way → Option ByteArray) a b = none := rfl
    have e1 : look true (fun _ => none : Way → Option ByteArray) a b = none := rfl
    have e2 : look true (putM (fun _ => none : Way → Option ByteArray) (wayA a b.toNat) (some ⟨#[120]⟩)) a b = some ⟨#[120]⟩ := by unfold look; rw [if_pos rfl, putM_self]
    have E0 := mkHid e0
    have E1 := mkHid e1
    have E2 := mkHid e2
    clear e0 e1 e2
    go_upto_region 9 with fail
    cases r
  case' false =>
    go_wp2_with fail
    refine (putS_not _ _ a b _ HM.out).mono ?_
    rintro e wc ⟨rfl, hBc⟩
    have x2 := cell_keep hBc y2
    have x3 := cell_keep hBc y3
    have HTa3 := mkHid (HTa2.out.below hBc)
    have HTb3 := mkHid (HTb.out.below hBc)
    have HBc := mkHid (below_step HBb.out hBc)
    clear hBc y2 y3 HTa2 HTb HBb
    go_wp2_with fail
    refine (getS_calls _ _ _ _ _ HTa3.out a b false h0 h1 HM.out).mono ?_
    rintro e wd ⟨rfl, hBd⟩
    rw [E0.out]
    have y2 := cell_keep hBd x2
    have y3 := cell_keep hBd x3
    have HTb4 := mkHid (HTb3.out.below hBd)
    have HBd := mkHid (below_step HBc.out hBd)
    clear hBd x2 x3 HTa3 HTb3 HBc
    go_wp2_with fail
    refine (getS_calls _ _ _ _ _ HTb4.out a b false h0 h1 HM.out).mono ?_
    rintro e we ⟨rfl, hBe⟩
    rw [E0.out]
    have x2 := cell_keep hBe y2
    have x3 := cell_keep hBe y3
    have HBe := mkHid (below_step HBd.out hBe)
    clear hBe y2 y3 HTb4 HBd
    go_wp2_with fail
    refine (whirligigref01_May.calls k a b false _ HM2.out).mono ?_
    rintro e wf ⟨rfl, hBf⟩
    have HBf := mkHid (below_step HBe.out hBf)
    clear hBf
    go_wp2_with fail
    refine (lives_calls _).mono ?_
    rintro e wg ⟨rfl, hBg⟩
    have HBg := mkHid (below_step HBf.out hBg)
    clear hBg
    go_wp2_with fail
    go_ret
    exact ⟨rfl, HBg.out⟩
  case' true =>
    go_wp2_with fail
    refine (putS_may _ _ _ _ _ HTa2.out a b _ h0 h1 (by omega) (by omega) HM.out 1 rfl).mono ?_
    rintro e wc ⟨rfl, hTc, hKc⟩
    have hno : ¬ w.heap.size = w9.heap.size := by omega
    have x2 := hKc.cell y2 hno
    have x3 := hKc.cell y3 hno
    have HTa3 := mkHid hTc
    have HTb3 := mkHid (HTb.out.kb hKc (fun b hb h => by have h2 : b = w9.heap.size := h; omega))
    have HBc : Hid (Below w.heap.size w wc) := HBb.out.trans (hKc.below HBb.out.size (fun i h => by have h2 : i = w9.heap.size := h; omega))
    clear hKc hTc y2 y3 HTa2 HTb HBb
    go_wp2_with fail
    refine (getS_calls _ _ _ _ _ HTa3.out a b true h0 h1 HM.out).mono ?_
    rintro e wd ⟨rfl, hBd⟩
    rw [E2.out]
    have y2 := cell_keep hBd x2
    have y3 := cell_keep hBd x3
    have HTb4 := mkHid (HTb3.out.below hBd)
    have HBd := mkHid (below_step HBc.out hBd)
    clear hBd x2 x3 HTa3 HTb3 HBc
    go_wp2_with fail
    refine (getS_calls _ _ _ _ _ HTb4.out a b true h0 h1 HM.out).mono ?_
    rintro e we ⟨rfl, hBe⟩
    rw [E1.out]
    have x2 := cell_keep hBe y2
    have x3 := cell_keep hBe y3
    have HBe := mkHid (below_step HBd.out hBe)
    clear hBe y2 y3 HTb4 HBd
    go_wp2_with fail
    refine (whirligigref01_May.calls k a b true _ HM2.out).mono ?_
    rintro e wf ⟨rfl, hBf⟩
    have HBf := mkHid (below_step HBe.out hBf)
    clear hBf
    go_wp2_with fail
    refine (lives_calls _).mono ?_
    rintro e wg ⟨rfl, hBg⟩
    have HBg := mkHid (below_step HBf.out hBg)
    clear hBg
    go_wp2_with fail
    go_ret
    exact ⟨rfl, HBg.out⟩
end Go.Proofs.Ytnihacajjpcjeaa
