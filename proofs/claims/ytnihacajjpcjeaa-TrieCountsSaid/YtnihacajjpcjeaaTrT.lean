/- Tries: one step on a trie and on the plain list. -/
import Derived.Test.YtnihacajjpcjeaaTrR
import Derived.Test.YtnihacajjpcjeaaTrV
import Derived.Test.YtnihacajjpcjeaaPx0
import Derived.Test.YtnihacajjpcjeaaPx2
import Derived.Test.YtnihacajjpcjeaaPx6
import Derived.Test.YtnihacajjpcjeaaPx7
namespace Go.Proofs.Ytnihacajjpcjeaa
open Go.RowKit Go.Proofs.Ytnihacajjpcjeaa.P Go.Proofs.YtnihacajjpcjeaaW.PrintWords Go.Proofs.YtnihacajjpcjeaaW.PrintLast Go.Proofs.YtnihacajjpcjeaaW.PrintMore
set_option linter.unusedVariables false
set_option linter.unusedSimpArgs false

/-- a trie and a plain list of the same values; w0: the world in which all began -/
structure SO (w0 w : World) (bt : Nat) (own : Nat → Prop) (n : Int) (m : Way → Option Int) (v : Value) (l : List S43) : Prop where
  below : Below w0.heap.size w0 w
  tri : Tri kI w bt own n m
  ownb : ∀ b, own b → w0.heap.size ≤ b ∧ b < w.heap.size
  row : Kd.R k43 43 w w0.heap.size (fun _ => True) v l
  dis : ∀ k, v.ownBlock = some k → ¬ own k
  rel : Rel m l
  len : n = l.length
section
variable {w0 w w' : World} {bt : Nat} {own : Nat → Prop} {n : Int} {m : Way → Option Int} {v : Value} {l : List S43}
theorem SO.read (h : SO w0 w bt own n m v l) (hb : Below w.heap.size w w') : SO w0 w' bt own n m v l :=
  ⟨h.below.trans (hb.mono h.below.size), h.tri.below hb, fun b hb' => ⟨(h.ownb b hb').1, Nat.lt_of_lt_of_le (h.ownb b hb').2 hb.size⟩, Kd.R_below h.row hb, h.dis, h.rel, h.len⟩
/-- the trie alone is written -/
theorem SO.wrote (h : SO w0 w bt own n m v l) {n' : Int} {m' : Way → Option Int} {own' : Nat → Prop} (ht : Tri kI w' bt own' n' m') (ho : ∀ b, own' b → own b ∨ (w.heap.size ≤ b ∧ b < w'.heap.size)) (hk : Kb own w w') :
    Below w0.heap.size w0 w' ∧ (∀ b, own' b → w0.heap.size ≤ b ∧ b < w'.heap.size) ∧ Kd.R k43 43 w' w0.heap.size (fun k => some k = v.ownBlock) v l ∧ (∀ k, v.ownBlock = some k → ¬ own' k) := by
  have hsz := h.below.size
  refine ⟨h.below.trans (hk.below hsz (fun i hi => (h.ownb i hi).1)), fun b hb => ?_, ?_, fun k hv hb => ?_⟩
  · rcases ho b hb with h1 | h1
    · exact ⟨(h.ownb b h1).1, Nat.lt_of_lt_of_le (h.ownb b h1).2 hk.size⟩
    · exact ⟨by omega, h1.2⟩
  · exact Kd.R_step (Kd.R_tight rfl h.row) (fun k ho hlt => hk.block k hlt (h.dis k ho.symm))
  · have hlt := Kd.R_lt h.row k hv
    rcases ho k hb with h1 | h1
    · exact h.dis k hv h1
    · omega
end
theorem number_ex (vv : Int) : ∃ x, whirligiglaw06_number.f vv = some x := by
  unfold whirligiglaw06_number.f
  split <;> exact ⟨_, rfl⟩
theorem Evt.two {α β : Type} {f : Nat → Option α} {g : Nat → Option β} {a : α} {b : β} (h : Evt f a) (k : Evt g b) : ∃ n, f n = some a ∧ g n = some b := by
  obtain ⟨K, hK⟩ := h
  obtain ⟨L, hL⟩ := k
  exact ⟨max K L, hK _ (by omega), hL _ (by omega)⟩

set_option maxHeartbeats 8000000 in
set_option maxRecDepth 100000 in
theorem step_else (w : World) (t v : Value) (kd vv a b A : Int) (h0 : kd ≠ 0) (h1 : kd ≠ 1) :
    Calls Try.prog 30 #[t, v, .agg #[.int .i64 kd, .int .i64 vv, .int .u32 a, .int .i64 b, .int .u32 A]] w fun e w' => e = .returned (.tuple #[v, .bool true]) ∧ Below w.heap.size w w' := by
  have c0 : (kd == 0) = false := beq_eq_false_iff_ne.mpr h0
  have c1 : (kd == 1) = false := beq_eq_false_iff_ne.mpr h1
  have HB0 : Hid (Below w.heap.size w (w.alloc (.cells #[.int .i64 kd, .int .i64 vv, .int .u32 a, .int .i64 b, .int .u32 A] 61))) := Below.alloc (Below.refl _ w) (Nat.le_refl _) _
  go_enter Try.func30, Try.ntmps30
  go_wp2_with fail
  go_ret2
  exact ⟨rfl, HB0.out⟩
set_option maxHeartbeats 8000000 in
set_option maxRecDepth 100000 in
theorem step_put_not (w : World) (bt : Nat) (v : Value) (vv a b A : Int) (k : Nat) (hM : addr_May.f a b = some false) (hM2 : whirligigref01_May.f k a b = some false) :
    Calls Try.prog 30 #[.pointer (some ⟨bt, 0, none⟩), v, .agg #[.int .i64 0, .int .i64 vv, .int .u32 a, .int .i64 b, .int .u32 A]] w fun e w' => e = .returned (.tuple #[v, .bool true]) ∧ Below w.heap.size w w' := by
  have HM := mkHid hM
  have HM2 := mkHid hM2
  obtain ⟨x, hx⟩ := number_ex vv
  have HX := mkHid hx
  clear hM hM2 hx
  obtain ⟨W, hW⟩ : ∃ W, W = w.alloc (.cells #[.int .i64 0, .int .i64 vv, .int .u32 a, .int .i64 b, .int .u32 A] 61) := ⟨_, rfl⟩
  have HB : Hid (Below w.heap.size w W) := by rw [hW]; exact Below.alloc (Below.refl _ w) (Nat.le_refl _) _
  have q0 : W.cell? ⟨w.heap.size, 0, none⟩ = some (.int .i64 0) := by rw [hW]; go_simp
  have q1 : W.cell? ⟨w.heap.size, 1, none⟩ = some (.int .i64 vv) := by rw [hW]; go_simp
  have q2 : W.cell? ⟨w.heap.size, 2, none⟩ = some (.int .u32 a) := by rw [hW]; go_simp
  have q3 : W.cell? ⟨w.heap.size, 3, none⟩ = some (.int .i64 b) := by rw [hW]; go_simp
  go_enter Try.func30, Try.ntmps30
  go_upto_region 2 with fail
  rw [← hW]
  clear hW
  go_upto_region 4 with fail
  go_region_held3 (fun w' => w'.cell? ⟨w.heap.size, 1, none⟩ = some (.int .i64 vv) ∧ w'.cell? ⟨w.heap.size, 2, none⟩ = some (.int .u32 a) ∧ w'.cell? ⟨w.heap.size, 3, none⟩ = some (.int .i64 b)) (go_keep)
    (first | (go_at_call 49; refine (whirligiglaw06_number.calls vv x _ HX.out).mono ?_; rintro e w1 ⟨rfl, hd⟩; obtain ⟨nd, rfl⟩ := hd) | (go_at_call 33; refine (put_not _ bt a b x HM.out).mono ?_; rintro e w2 ⟨rfl, hb⟩; have r1 := cell_keep hb (show _ = some (.int .i64 vv) from q1); have r2 := cell_keep hb (show _ = some (.int .u32 a) from q2); have r3 := cell_keep hb (show _ = some (.int .i64 b) from q3)))
  all_goals
    have HB2 := mkHid (below_step (pw_below_drewN HB.out _) hb)
    clear hb q0 q1 q2 q3 r1 HB
    go_wp2_with fail
    refine (whirligigref01_May.calls k a b false _ HM2.out).mono ?_
    rintro e w3 ⟨rfl, hb⟩
    have HB3 := mkHid (below_step HB2.out hb)
    clear hb
    go_wp2_with fail
    go_ret2
    exact ⟨rfl, HB3.out⟩
set_option maxHeartbeats 8000000 in
set_option maxRecDepth 100000 in
theorem step_put (w0 w : World) (bt : Nat) (own : Nat → Prop) (n : Int) (m : Way → Option Int) (v : Value) (l : List S43) (H : SO w0 w bt own n m v l) (vv a b A : Int) (k : Nat) (ha : isA a) (hl : l.length ≤ 100) (hM : addr_May.f a b = some true) (hM2 : whirligigref01_May.f k a b = some true) (x : Int) (hx : whirligiglaw06_number.f vv = some x)
    (l' : List S43) (is : Bool) (hP : whirligigref06_Put.f k l a b x = some (l', is)) (his : (m (wayA a b.toNat)).isSome = is) (hrel : Rel (putM m (wayA a b.toNat) (some x)) l') (hlen : (l'.length : Int) = if is = true then (l.length : Int) else l.length + 1) :
    Calls Try.prog 30 #[.pointer (some ⟨bt, 0, none⟩), v, .agg #[.int .i64 0, .int .i64 vv, .int .u32 a, .int .i64 b, .int .u32 A]] w fun e w' => ∃ (v' : Value) (own' : Nat → Prop) (n' : Int), e = .returned (.tuple #[v', .bool true]) ∧ SO w0 w' bt own' n' (putM m (wayA a b.toNat) (some x)) v' l' := by
  obtain ⟨b0, b1⟩ := may_bits hM
  obtain ⟨N, rfl⟩ : ∃ N : Nat, b = N := ⟨b.toNat, by omega⟩
  have HM := mkHid hM
  have HM2 := mkHid hM2
  have HX := mkHid hx
  have HP := mkHid hP
  have HREL := mkHid hrel
  have HLEN := mkHid hlen
  have HIS := mkHid his
  have hlo := H.len
  have hz := H.below.size
  obtain ⟨W, hW⟩ : ∃ W, W = w.alloc (.cells #[.int .i64 0, .int .i64 vv, .int .u32 a, .int .i64 N, .int .u32 A] 61) := ⟨_, rfl⟩
  have HB : Hid (Below w.heap.size w W) := by rw [hW]; exact Below.alloc (Below.refl _ w) (Nat.le_refl _) _
  have HS : Hid (SO w0 W bt own n m v l) := H.read HB.out
  have HSI : Hid (∀ b, own b → b < w.heap.size) := fun b hb => (H.ownb b hb).2
  have q0 : W.cell? ⟨w.heap.size, 0, none⟩ = some (.int .i64 0) := by rw [hW]; go_simp
  have q1 : W.cell? ⟨w.heap.size, 1, none⟩ = some (.int .i64 vv) := by rw [hW]; go_simp
  have q2 : W.cell? ⟨w.heap.size, 2, none⟩ = some (.int .u32 a) := by rw [hW]; go_simp
  have q3 : W.cell? ⟨w.heap.size, 3, none⟩ = some (.int .i64 N) := by rw [hW]; go_simp
  clear hM hM2 hx hP hrel hlen his H
  go_enter Try.func30, Try.ntmps30
  go_upto_region 2 with fail
  rw [← hW]
  clear hW
  go_upto_region 4 with fail
  have hcall : Hid (∀ i, Calls Try.prog 33 #[.pointer (some ⟨bt, 0, none⟩), .agg #[.int .u32 a, .int .i64 N], .int .i64 x] (W.drewN i) fun e w2 => e = .returned (.tuple #[.bool is, .int .i64 0]) ∧ w2.cell? ⟨w.heap.size, 1, none⟩ = some (.int .i64 vv) ∧ w2.cell? ⟨w.heap.size, 2, none⟩ = some (.int .u32 a) ∧ w2.cell? ⟨w.heap.size, 3, none⟩ = some (.int .i64 N) ∧
      Hid (∃ n' : Int, n' = l'.length ∧ Tri kI w2 bt (ownN own W w2) n' (putM m (wayA a N) (some x)) ∧ Kb own W w2)) := fun i => by
    have hS1 : SO w0 (W.drewN i) bt own n m v l := HS.out.read (pw_below_drewN (Below.refl _ W) _)
    refine (put_calls (W.drewN i) bt own n m hS1.tri a N x ha.1 (by have := ha.2; omega) (by omega) (by omega) (by omega) HM.out (l'.length : Int) (by
      rw [HLEN.out, ← HIS.out, hlo]; rfl)).mono ?_
    rintro e w2 ⟨rfl, g1, g2⟩
    have hno : ¬ own w.heap.size := fun h => absurd (HSI.out _ h) (by omega)
    refine ⟨by rw [show (m (wayA a N)).isSome = is from HIS.out], g2.cell q1 hno, g2.cell q2 hno, g2.cell q3 hno, l'.length, rfl, g1, ⟨g2.os, g2.tape, g2.output, g2.size, g2.block⟩⟩
  clear q0
  go_region_held3 (fun w' => w'.cell? ⟨w.heap.size, 1, none⟩ = some (.int .i64 vv) ∧ w'.cell? ⟨w.heap.size, 2, none⟩ = some (.int .u32 a) ∧ w'.cell? ⟨w.heap.size, 3, none⟩ = some (.int .i64 N)) (go_keep)
    (first | (go_at_call 49; refine (whirligiglaw06_number.calls vv x _ HX.out).mono ?_; rintro e w1 ⟨rfl, hd⟩; obtain ⟨nd, rfl⟩ := hd) | (go_at_call 33; refine (hcall.out _).mono ?_; rintro e w2 ⟨rfl, r1, r2, r3, hput⟩))
  all_goals
    obtain ⟨n', hn', g1, g2⟩ := hput.out
    have HW := mkHid (HS.out.wrote g1 (fun b hb => hb) g2)
    have HTR := mkHid g1
    have HN' := mkHid hn'
    clear hput g1 g2 hn' hcall HS q1 q2 q3
    go_wp2_with fail
    refine (whirligigref01_May.calls k a N true _ HM2.out).mono ?_
    rintro e w3 ⟨rfl, hb⟩
    have s1 := cell_keep hb r1
    have s2 := cell_keep hb r2
    have s3 := cell_keep hb r3
    have HT3 := mkHid (HTR.out.below hb)
    have HR3 := mkHid (Kd.R_below HW.out.2.2.1 hb)
    have HB3 : Hid (Below w0.heap.size w0 w3) := HW.out.1.trans (hb.mono HW.out.1.size)
    have HO3 : Hid (∀ b, ownN own W w2 b → w0.heap.size ≤ b ∧ b < w3.heap.size) := fun b h => ⟨(HW.out.2.1 b h).1, Nat.lt_of_lt_of_le (HW.out.2.1 b h).2 hb.size⟩
    clear hb r1 r2 r3 HTR HW
    go_upto_region 7 with fail
    obtain ⟨A0, c0, hv⟩ := Kd.R_slice HR3.out
    subst hv
    go_region_held3 (fun w' => w'.cell? ⟨w.heap.size, 1, none⟩ = some (.int .i64 vv) ∧ w'.cell? ⟨w.heap.size, 2, none⟩ = some (.int .u32 a) ∧ w'.cell? ⟨w.heap.size, 3, none⟩ = some (.int .i64 N)) (go_keep)
      (first | (go_at_call 49; refine (whirligiglaw06_number.calls vv x _ HX.out).mono ?_; rintro e w1 ⟨rfl, hd⟩; obtain ⟨nd2, rfl⟩ := hd) | (go_at_call 50; refine (whirligigref06_Put.calls k A0 c0 l a N x l' is _ ((Kd.R_reads' (Kd.R_drewN HR3.out _)).2.2) (Kd.R_reads' HR3.out).2.1 HP.out).mono ?_; rintro e w4 ⟨v4, rfl, hR4, hb4⟩; have z1 := cell_keep hb4 (show _ = some (.int .i64 vv) from s1); have z2 := cell_keep hb4 (show _ = some (.int .u32 a) from s2); have z3 := cell_keep hb4 (show _ = some (.int .i64 N) from s3)))
    all_goals
      have HS5 : Hid (SO w0 w4 bt (ownN own W w2) n' (putM m (wayA a N) (some x)) v4 l') := by
        have hz3 := HB3.out.size
        refine ⟨(pw_below_drewN HB3.out _).trans (hb4.mono hz3), (HT3.out.drewN _).below hb4, fun b h => ⟨(HO3.out b h).1, Nat.lt_of_lt_of_le (HO3.out b h).2 hb4.size⟩, Kd.R_lower hR4 hz3, fun k hk ho => ?_, HREL.out, HN'.out⟩
        have h1 := Kd.R_base hR4 k hk
        have h2 := (HO3.out k ho).2
        have h3 : w3.heap.size ≤ k := h1
        omega
      clear hb4 hR4 HB3 HT3 HO3 HR3 z1 z2 z3 s1 s2 s3
      go_wp2_with fail
      go_ret2
      exact ⟨v4, _, n', by first | rfl | simp, HS5.out⟩
set_option maxHeartbeats 8000000 in
set_option maxRecDepth 100000 in
theorem step_drop_not (w : World) (bt : Nat) (v : Value) (vv a b A : Int) (k : Nat) (hM : addr_May.f a b = some false) (hM2 : whirligigref01_May.f k a b = some false) :
    Calls Try.prog 30 #[.pointer (some ⟨bt, 0, none⟩), v, .agg #[.int .i64 1, .int .i64 vv, .int .u32 a, .int .i64 b, .int .u32 A]] w fun e w' => e = .returned (.tuple #[v, .bool true]) ∧ Below w.heap.size w w' := by
  have HM := mkHid hM
  have HM2 := mkHid hM2
  clear hM hM2
  obtain ⟨W, hW⟩ : ∃ W, W = w.alloc (.cells #[.int .i64 1, .int .i64 vv, .int .u32 a, .int .i64 b, .int .u32 A] 61) := ⟨_, rfl⟩
  have HB : Hid (Below w.heap.size w W) := by rw [hW]; exact Below.alloc (Below.refl _ w) (Nat.le_refl _) _
  have q0 : W.cell? ⟨w.heap.size, 0, none⟩ = some (.int .i64 1) := by rw [hW]; go_simp
  have q2 : W.cell? ⟨w.heap.size, 2, none⟩ = some (.int .u32 a) := by rw [hW]; go_simp
  have q3 : W.cell? ⟨w.heap.size, 3, none⟩ = some (.int .i64 b) := by rw [hW]; go_simp
  go_enter Try.func30, Try.ntmps30
  go_upto_region 2 with fail
  rw [← hW]
  clear hW
  go_wp2_with fail
  refine (drop_not _ bt a b HM.out).mono ?_
  rintro e w2 ⟨rfl, hb⟩
  have r2 := cell_keep hb q2
  have r3 := cell_keep hb q3
  have HB2 := mkHid (below_step HB.out hb)
  clear hb q0 q2 q3 HB
  go_wp2_with fail
  refine (whirligigref01_May.calls k a b false _ HM2.out).mono ?_
  rintro e w3 ⟨rfl, hb⟩
  have HB3 := mkHid (below_step HB2.out hb)
  clear hb
  go_wp2_with fail
  go_ret2
  exact ⟨rfl, HB3.out⟩
/-- Drop, whether there is a value or none -/
theorem drop_any (w : World) (bt : Nat) (own : Nat → Prop) (n : Int) (m : Way → Option Int) (hT : Tri kI w bt own n m) (hS : ∀ b, own b → b < w.heap.size) (a : Int) (N : Nat) (h0 : 0 ≤ a) (h1 : a < 4294967296) (b1 : N ≤ 32) (n0 : (m (wayA a N)).isSome = true → 0 < n) (n1 : n < 1000000) (hM : addr_May.f a N = some true) :
    Calls Try.prog 18 #[.pointer (some ⟨bt, 0, none⟩), .agg #[.int .u32 a, .int .i64 N]] w fun e w' => e = .returned (.bool (m (wayA a N)).isSome) ∧ Tri kI w' bt own (if (m (wayA a N)).isSome = true then n - 1 else n) (putM m (wayA a N) none) ∧ Kb own w w' := by
  cases hm : m (wayA a N) with
  | none =>
    refine (drop_none w bt own n m hT a N h0 h1 b1 hM hm).mono ?_
    rintro e w' ⟨rfl, hb⟩
    refine ⟨rfl, ?_, Kb.of_below hb⟩
    have e1 : putM m (wayA a N) none = m := by
      funext π
      by_cases e : π = wayA a N
      · rw [e, putM_self, hm]
      · exact putM_ne e
    rw [e1]
    exact hT.below hb
  | some v =>
    refine (drop_calls w bt own n m hT hS a N h0 h1 b1 (n0 (by rw [hm]; rfl)) n1 hM v hm).mono ?_
    rintro e w' ⟨rfl, h2, h3⟩
    exact ⟨rfl, h2, h3⟩
theorem Tri.kept {V : Type} {K : TK V} {w w' : World} {bt : Nat} {own S : Nat → Prop} {n : Int} {m : Way → Option V} (h : Tri K w bt own n m) (hk : Kept w w' S) (ho : ∀ b, own b → ¬ S b) : Tri K w' bt own n m := by
  obtain ⟨D, blk, h1, h2, h3, h4⟩ := h
  exact ⟨D, blk, ⟨h1.nodes.keep (fun π hp => hk.2 _ (h1.nodes.lt hp) (ho _ (h4 π hp))), (hk.2 _ (blk_lt h1.root) (ho _ h3)).trans h1.root, h1.ne⟩, h2, h3, h4⟩
set_option maxHeartbeats 8000000 in
set_option maxRecDepth 100000 in
theorem step_drop (w0 w : World) (bt : Nat) (own : Nat → Prop) (n : Int) (m : Way → Option Int) (v : Value) (l : List S43) (H : SO w0 w bt own n m v l) (vv a b A : Int) (k : Nat) (ha : isA a) (hl : l.length ≤ 100) (hM : addr_May.f a b = some true) (hM2 : whirligigref01_May.f k a b = some true)
    (l' : List S43) (is : Bool) (hP : whirligigref06_Drop.f k l a b = some (l', is)) (his : (m (wayA a b.toNat)).isSome = is) (hrel : Rel (putM m (wayA a b.toNat) none) l') (hlen : (l.length : Int) = if is = true then (l'.length : Int) + 1 else l'.length) :
    Calls Try.prog 30 #[.pointer (some ⟨bt, 0, none⟩), v, .agg #[.int .i64 1, .int .i64 vv, .int .u32 a, .int .i64 b, .int .u32 A]] w fun e w' => ∃ (v' : Value) (own' : Nat → Prop) (n' : Int), e = .returned (.tuple #[v', .bool true]) ∧ SO w0 w' bt own' n' (putM m (wayA a b.toNat) none) v' l' := by
  obtain ⟨b0, b1⟩ := may_bits hM
  obtain ⟨N, rfl⟩ : ∃ N : Nat, b = N := ⟨b.toNat, by omega⟩
  have HM := mkHid hM
  have HM2 := mkHid hM2
  have HP := mkHid hP
  have HREL := mkHid hrel
  have HLEN := mkHid hlen
  have HIS := mkHid his
  have hlo := H.len
  have hz := H.below.size
  obtain ⟨W, hW⟩ : ∃ W, W = w.alloc (.cells #[.int .i64 1, .int .i64 vv, .int .u32 a, .int .i64 N, .int .u32 A] 61) := ⟨_, rfl⟩
  have HB : Hid (Below w.heap.size w W) := by rw [hW]; exact Below.alloc (Below.refl _ w) (Nat.le_refl _) _
  have HS : Hid (SO w0 W bt own n m v l) := H.read HB.out
  have HSI : Hid (∀ b, own b → b < w.heap.size) := fun b hb => (H.ownb b hb).2
  have q0 : W.cell? ⟨w.heap.size, 0, none⟩ = some (.int .i64 1) := by rw [hW]; go_simp
  have q2 : W.cell? ⟨w.heap.size, 2, none⟩ = some (.int .u32 a) := by rw [hW]; go_simp
  have q3 : W.cell? ⟨w.heap.size, 3, none⟩ = some (.int .i64 N) := by rw [hW]; go_simp
  clear hM hM2 hP hrel hlen his H
  go_enter Try.func30, Try.ntmps30
  go_upto_region 2 with fail
  rw [← hW]
  clear hW
  go_wp2_with fail
  refine (drop_any _ bt own n m HS.out.tri (fun b hb => (HS.out.ownb b hb).2) a N ha.1 (by have := ha.2; omega) (by omega) (fun h => by have := HLEN.out; rw [← HIS.out] at this; rw [hlo, this]; rw [show (m (wayA a ((N : Int)).toNat)).isSome = true from h]; simp <;> omega) (by omega) HM.out).mono ?_
  rintro e w2 ⟨rfl, g1, g2⟩
  have hno : ¬ own w.heap.size := fun h => absurd (HSI.out _ h) (by omega)
  have r2 := g2.cell q2 hno
  have r3 := g2.cell q3 hno
  have HW := mkHid (HS.out.wrote g1 (fun b hb => .inl hb) g2)
  have HTR := mkHid g1
  rw [show (m (wayA a N)).isSome = is from HIS.out]
  clear g1 g2 HS q0 q2 q3 HB hno
  go_wp2_with fail
  refine (whirligigref01_May.calls k a N true _ HM2.out).mono ?_
  rintro e w3 ⟨rfl, hb⟩
  have s2 := cell_keep hb r2
  have s3 := cell_keep hb r3
  have HT3 := mkHid (HTR.out.below hb)
  have HR3 := mkHid (Kd.R_below HW.out.2.2.1 hb)
  have HB3 : Hid (Below w0.heap.size w0 w3) := HW.out.1.trans (hb.mono HW.out.1.size)
  have HO3 : Hid (∀ b, own b → w0.heap.size ≤ b ∧ b < w3.heap.size) := fun b h => ⟨(HW.out.2.1 b h).1, Nat.lt_of_lt_of_le (HW.out.2.1 b h).2 hb.size⟩
  have HD3 : Hid (∀ k, v.ownBlock = some k → ¬ own k) := HW.out.2.2.2
  clear hb r2 r3 HTR HW
  go_wp2_with fail
  refine (whirligigref06_Drop.calls k _ v l a N l' is w0 _ HB3.out HR3.out HP.out).mono ?_
  rintro e w4 ⟨v4, rfl, hR4, hb4, hk4⟩
  have HS5 : Hid (SO w0 w4 bt own (if (m (wayA a N)).isSome = true then n - 1 else n) (putM m (wayA a N) none) v4 l') := by
    refine ⟨hb4, HT3.out.kept hk4 (fun b hb he => HD3.out b he.symm hb), fun b h => ⟨(HO3.out b h).1, Nat.lt_of_lt_of_le (HO3.out b h).2 hk4.1⟩, Kd.R_mono hR4 (fun _ _ => trivial), fun k hk ho => ?_, HREL.out, ?_⟩
    · rcases hR4.1 k hk with h | h
      · exact HD3.out k h.symm ho
      · have := (HO3.out k ho).2; omega
    · have h1 := HLEN.out
      rw [show (m (wayA a N)).isSome = is from HIS.out]
      cases is
      · simp at h1 ⊢; omega
      · simp at h1 ⊢; omega
  clear hR4 hb4 hk4 HB3 HT3 HO3 HR3 HD3 s2 s3
  go_wp2_with fail
  go_ret2
  exact ⟨v4, _, _, by first | rfl | simp, HS5.out⟩
end Go.Proofs.Ytnihacajjpcjeaa
