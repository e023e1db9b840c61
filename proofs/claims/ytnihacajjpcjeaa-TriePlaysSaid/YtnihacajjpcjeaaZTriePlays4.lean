/- Part of the proof of RowTriePlays: what it asks of functions, words and plain facts (put together by this session's own program, wip/tools/shake.py). -/
import Derived.Test.YtnihacajjpcjeaaZTriePlays0
import Derived.Test.YtnihacajjpcjeaaZTriePlays1
import Derived.Test.YtnihacajjpcjeaaZTriePlays2
import Derived.Test.YtnihacajjpcjeaaZTriePlays3
import Derived.BigRegion
import Derived.Deep.Slices
import Derived.ChangeArms
import Derived.OpenShut
import Derived.SizedLaws
import Derived.KernelRfl
section
namespace Go.Proofs.Ytnihacajjpcjeaa
open Go.RowKit Go.Proofs.Ytnihacajjpcjeaa.P Go.Proofs.YtnihacajjpcjeaaW.PrintWords Go.Proofs.YtnihacajjpcjeaaW.PrintLast Go.Proofs.YtnihacajjpcjeaaW.PrintMore
set_option linter.unusedVariables false
set_option linter.unusedSimpArgs false

set_option maxHeartbeats 8000000 in
set_option maxRecDepth 100000 in
theorem each_calls (fid : Nat) (cap : Array Value) {σ : Type} (step : σ → S43 → σ × Bool) (Inv : World → (Nat → Prop) → σ → Prop) (cnt : σ → Nat) (hdo : Does fid cap step Inv cnt)
    (w : World) (bt : Nat) (ownT : Nat → Prop) (n : Int) (m : Way → Option Int) (l : List S43) (hT : Tri kI w bt ownT n m) (hR : Rel m l) (own : Nat → Prop) (s : σ) (hI : Inv w own s) (hd : ∀ b, own b → ¬ ownT b) (hc : cnt s + l.length ≤ 1000) :
    Calls Try.prog 24 #[.pointer (some ⟨bt, 0, none⟩), .func (.func fid) #[] cap] w fun e w' => ∃ own' : Nat → Prop, e = .returned (.tuple #[]) ∧ Inv w' own' (runS step s l).1 ∧ (∀ b, own' b → own b ∨ w.heap.size ≤ b) ∧ Kb own w w' := by
  obtain ⟨D, blk, g1, g2, g3, g4⟩ := hT
  have hc0 := g1.cell0
  have hw := mkHid (walk_calls fid cap step Inv cnt hdo bt n D m blk l hR g2 33 [] rfl w own s g1 hI (fun π hp h => hd _ h (g4 π hp)) (fun h => hd _ h g3) (by rw [enum_rel hR]; exact hc))
  rw [enum_rel hR] at hw
  clear g1 g2 g3 g4 hI hd hc hR hdo
  go_enter Try.func24, Try.ntmps24
  go_wp2_with fail
  refine hw.out.mono ?_
  rintro e w' ⟨own', rfl, h1, h2, h3⟩
  have H1 := mkHid h1
  have H2 := mkHid h2
  have H3 := mkHid h3
  clear h1 h2 h3
  go_wp2_with fail
  exact bodyPost_end (results_none rfl _ _ _) rfl ⟨own', rfl, H1.out, H2.out, H3.out⟩
/-- what Below's function does: it puts a prefix behind those that are there -/
def addS (s : List S34) (x : S43) : List S34 × Bool := (s ++ [x.f0], true)
def InvB (S : Nat) (w : World) (own : Nat → Prop) (s : List S34) : Prop :=
  ∃ v : Value, w.heap[S]? = some (.cells #[v] 44 (0, 0)) ∧ Kd.R k34 34 w (S + 1) (fun _ => True) v s ∧ ∀ b, own b ↔ (b = S ∨ v.ownBlock = some b)
theorem run_addS : ∀ (l : List S43) (s : List S34), runS addS s l = (s ++ l.map (·.f0), true) := by
  intro l
  induction l with
  | nil => intro s; simp [runS]
  | cons x l ih => intro s; simp only [runS]; show (if true = true then runS addS (s ++ [x.f0]) l else (s ++ [x.f0], false)) = _; rw [if_pos rfl, ih]; simp
set_option maxHeartbeats 8000000 in
set_option maxRecDepth 100000 in
theorem addS_calls (S : Nat) (w : World) (own : Nat → Prop) (s : List S34) (a b v : Int) (hl : s.length < 1000) (hI : InvB S w own s) :
    Calls Try.prog 48 #[.agg #[.int .u32 a, .int .i64 b], .int .i64 v, .pointer (some ⟨S, 0, none⟩)] w fun e w' => ∃ own' : Nat → Prop, e = .returned (.bool true) ∧ InvB S w' own' (s ++ [⟨a, b⟩]) ∧ (∀ b, own' b → own b ∨ w.heap.size ≤ b) ∧ Kb own w w' := by
  obtain ⟨u, hS, hR, ho⟩ := hI
  have HO := mkHid ho
  obtain ⟨A, c, hu⟩ := Kd.R_slice hR
  obtain ⟨ln, hln⟩ : ∃ ln, ln = s.length := ⟨_, rfl⟩
  rw [← hln] at hu
  subst hu
  have HLN := mkHid hln
  obtain ⟨W, hW⟩ : ∃ W, W = w.alloc (.cells #[.int .u32 a, .int .i64 b] 34) := ⟨_, rfl⟩
  have hB : Below w.heap.size w W := by rw [hW]; exact Below.alloc (Below.refl _ w) (Nat.le_refl _) _
  have HB := mkHid hB
  have q0 : W.cell? ⟨w.heap.size, 0, none⟩ = some (.int .u32 a) := by rw [hW]; go_simp
  have q1 : W.cell? ⟨w.heap.size, 1, none⟩ = some (.int .i64 b) := by rw [hW]; go_simp
  have hSW : W.heap[S]? = some (.cells #[.slice A ln c] 44 (0, 0)) := (hB.block S (blk_lt hS)).trans hS
  have HSW := mkHid hSW
  have HRW := mkHid (Kd.R_below hR hB)
  have hx : W.cell? ⟨S, 0, none⟩ = some (.slice A ln c) := blk_cell hSW 0
  have hSl : S + 1 ≤ W.heap.size := blk_lt hSW
  clear ho hln hB hS hR hSW
  go_enter Try.func48, Try.ntmps48
  go_upto_region 1 with fail
  rw [← hW]
  clear hW
  go_upto_region 2 with (at_builtin; refine Kd.R_append k34 (w0 := W) (S + 1) ?a1 (.tmp 6) (.tmp 8) 44 34 (.agg #[(.int .u32 0), (.int .i64 0)]) 16 ?a2 ?a3 ?a4 ?a5 ?a6 ?a7 (.slice A ln c) s ⟨a, b⟩ [.int .u32 a, .int .i64 b] (fun _ => True) (fun _ => False) ?a8 ?a9 ?aP ?aE ?aF ?aO ?aB ?aS ?aL ?_; (case a1 => rfl); (case a2 => rfl); (case a3 => exact Try.underlying44); (case a4 => exact info34); (case a5 => rfl); (case a6 => decide); (case a7 => omega); (case a8 => rfl); (case a9 => rfl); (case aP => exact k34_mkM _ _ _ ⟨a, b⟩); (case aE => exact fun _ h => h.elim); (case aF => exact fun _ _ => trivial); (case aO => exact HRW.out); (case aB => exact Below.refl _ _); (case aS => exact hSl); (case aL => omega); intro v1 w3 hR3 hB3 hg3 hat3; have hS3 : w3.heap[S]? = some (.cells #[.slice A ln c] 44 (0, 0)) := (hB3.block S (by omega)).trans HSW.out; have hx3 : w3.cell? ⟨S, 0, none⟩ = some (.slice A ln c) := blk_cell hS3 0; have hf3 : w3.frozen? ⟨S, 0, none⟩ = false := blk_frozen hS3 0; obtain ⟨A4, c4, h4⟩ := Kd.R_slice hR3; obtain ⟨n4, hn4⟩ : ∃ n4 : Nat, n4 = (s ++ [(⟨a, b⟩ : S34)]).length := ⟨_, rfl⟩; rw [← hn4] at h4; subst h4; have HN4 := mkHid hn4; clear hn4)
  have HIV : Hid (InvB S (w3.setCell ⟨S, 0, none⟩ (.slice A4 n4 c4)) (fun b => b = S ∨ (Value.slice A4 n4 c4).ownBlock = some b) (s ++ [⟨a, b⟩])) :=
    ⟨.slice A4 n4 c4, blk_set hS3 0 _, Kd.R_mono (Kd.R_far (Kd.R_bound hR3) (p := ⟨S, 0, none⟩) (fun k hk => by have := hk.2.1; show k ≠ S; omega) _) (fun _ _ => trivial), fun b => Iff.rfl⟩
  have HGR : Hid (∀ b, (b = S ∨ (Value.slice A4 n4 c4).ownBlock = some b) → own b ∨ w.heap.size ≤ b) := fun b h => by
    rcases h with h | h
    · exact .inl ((HO.out b).2 (.inl h))
    · rcases hat3 with h2 | ⟨b', h2, h3⟩
      · exact .inl ((HO.out b).2 (.inr (by rw [← h2]; exact h)))
      · rw [h] at h2; have := Option.some.inj h2; have := HB.out.size; exact .inr (by omega)
  have HKB : Hid (Kb own w (w3.setCell ⟨S, 0, none⟩ (.slice A4 n4 c4))) := by
    refine Kb.set ⟨hB3.os.trans HB.out.os, hB3.tape.trans HB.out.tape, hB3.output.trans HB.out.output, Nat.le_trans HB.out.size hB3.size, fun k hk hno => ?_⟩ _ (.inl ((HO.out S).2 (.inl rfl)))
    refine (hg3.block k (Nat.lt_of_lt_of_le hk HB.out.size) (fun e => hno ((HO.out k).2 (.inr e.symm)))).trans (HB.out.block k hk)
  clear hR3 hB3 hg3 hat3 hS3 hx3 hf3
  go_wp2_with fail
  go_ret
  exact ⟨_, rfl, HIV.out, HGR.out, HKB.out⟩
theorem addS_does (S : Nat) : Does 48 #[.pointer (some ⟨S, 0, none⟩)] addS (InvB S) (fun s => s.length) where
  enters := fun args W => by kernel_rfl
  read := fun w w' own s ⟨v, h1, h2, h3⟩ hb => ⟨v, (hb.block S (blk_lt h1)).trans h1, Kd.R_below h2 hb, h3⟩
  lt := fun w own s ⟨v, h1, h2, h3⟩ b hb => by
    rcases (h3 b).1 hb with rfl | h
    · exact blk_lt h1
    · exact Kd.R_lt h2 b h
  grow := fun s x => by show (s ++ [x.f0]).length ≤ _; simp
  does := fun w own s π v hc hI => addS_calls S w own s (adrW π) (π.length : Int) v hc hI

set_option maxHeartbeats 8000000 in
set_option maxRecDepth 100000 in
theorem below_calls (w : World) (bt : Nat) (ownT : Nat → Prop) (n : Int) (m : Way → Option Int) (l : List S43) (hT : Tri kI w bt ownT n m) (hS : ∀ b, ownT b → b < w.heap.size) (hR : Rel m l) (hl : l.length ≤ 100) (a : Int) (N : Nat) (ha : isA a) (b1 : N ≤ 32) (hM : addr_May.f a N = some true) (hadr : adrW (wayA a N) = a) (hle : (enumW m (33 - N) (wayA a N)).length ≤ 100) :
    Calls Try.prog 26 #[.pointer (some ⟨bt, 0, none⟩), .agg #[.int .u32 a, .int .i64 N]] w fun e w' => ∃ v : Value, e = .returned v ∧ Kd.R k34 34 w' w.heap.size (fun _ => True) v ((enumW m (33 - N) (wayA a N)).map (·.f0)) ∧ Below w.heap.size w w' := by
  obtain ⟨D, blk, g1, g2, g3, g4⟩ := hT
  obtain ⟨S, hSe⟩ : ∃ S, S = w.heap.size + 1 := ⟨_, rfl⟩
  obtain ⟨W, hW⟩ : ∃ W, W = (w.alloc (.cells #[.int .u32 a, .int .i64 N] 34)).alloc (.cells #[.slice none 0 0] 44) := ⟨_, rfl⟩
  have q0 : W.cell? ⟨w.heap.size, 0, none⟩ = some (.int .u32 a) := by rw [hW]; go_simp
  have q1 : W.cell? ⟨w.heap.size, 1, none⟩ = some (.int .i64 N) := by rw [hW]; go_simp
  have hSW : W.heap[S]? = some (.cells #[.slice none 0 0] 44 (0, 0)) := by
    rw [hW, hSe]
    have := heap_alloc_new (w.alloc (.cells #[.int .u32 a, .int .i64 N] 34)) (.cells #[.slice none 0 0] 44)
    rw [World.size_alloc] at this
    exact this
  have HB : Hid (Below w.heap.size w W) := by rw [hW]; exact ((Below.refl w.heap.size w).alloc (Nat.le_refl _) _).alloc (by simp) _
  have HTW := mkHid (g1.below HB.out)
  have hfind : Hid (Calls Try.prog 42 #[.pointer (some ⟨bt, 0, none⟩), .agg #[.int .u32 a, .int .i64 N]] W.drew fun e w' => e = .returned (ptrT D blk (wayA a N)) ∧ Below W.drew.heap.size W.drew w') :=
    find_calls W.drew bt n D m blk HTW.out.drew a N ha.1 (by have := ha.2; omega) b1 hM
  have hI0 : InvB S W (fun b => b = S) [] := ⟨.slice none 0 0, hSW, Kd.R_nil _ _ _ _ _, fun b => by simp [Value.ownBlock]⟩
  have hwalk : Hid (∀ w5, Below W.drew.heap.size W.drew w5 → Calls Try.prog 47 #[ptrT D blk (wayA a N), .agg #[.int .u32 a, .int .i64 N], .func (.func 48) #[] #[.pointer (some ⟨S, 0, none⟩)]] w5 fun e w' => ∃ own' : Nat → Prop, e = .returned (.bool true) ∧ InvB S w' own' ((enumW m (33 - N) (wayA a N)).map (·.f0)) ∧ (∀ b, own' b → b = S ∨ w5.heap.size ≤ b) ∧ Kb (fun b => b = S) w5 w') := fun w5 hb => by
    have hI5 := (addS_does S).read _ _ _ _ ((addS_does S).read _ _ _ _ hI0 (below_drew (Below.refl _ W))) hb
    have h := walk_calls 48 #[.pointer (some ⟨S, 0, none⟩)] addS (InvB S) (fun s => s.length) (addS_does S) bt n D m blk l hR g2 (33 - N) (wayA a N) (by rw [wayA_len]; omega) w5 (fun b => b = S) [] (HTW.out.drew.below hb) hI5 (fun π hp h => by have := hS _ (g4 π hp); have h2 : blk π = S := h; omega) (fun h => by have := hS _ g3; have h2 : bt = S := h; omega) (by simp; omega)
    rw [run_addS, hadr, wayA_len, List.nil_append] at h
    exact h
  have hnA : Hid (¬ (fun b => b = S) (⟨w.heap.size, 0, none⟩ : Addr).block) := fun h => by have h2 : w.heap.size = S := h; omega
  have hbt := blk_lt g1.root
  have hsS : Hid (S = w.heap.size + 1) := hSe
  clear g1 g2 g3 g4 hR hM hI0 hS
  go_enter Try.func26, Try.ntmps26
  go_upto_region 2 with fail
  rw [← hSe, ← hW]
  clear hW hSe
  refine wp_region_held_drew (S := fun w' => w'.cell? ⟨w.heap.size, 0, none⟩ = some (.int .u32 a) ∧ w'.cell? ⟨w.heap.size, 1, none⟩ = some (.int .i64 (N : Int))) (by kernel_rfl) ⟨q0, q1⟩ (fun hHeld => ?_)
  refine wpAnyH_take (i := 0) (oi := _) (v := ?_) rfl (by kernel_rfl) (by kernel_rfl) (by kernel_rfl) (fun _ _ _ h => h) (Or.inl ⟨by first | (simp [Region.wanted, yielded]; done) | rfl, ?_⟩) (by assumption) ?_
  rotate_left
  · intro w hSw
    first | (go_simp; done) | (go_simp; with_reducible rfl)
  (try simp only [Act.put, List.getElem_toArray, List.getElem_cons_succ, List.getElem_cons_zero, List.setIfInBounds_toArray, List.set_cons_zero, List.set_cons_succ])
  refine wpAnyH_take (i := 1) (oi := _) (v := ?_) rfl (by kernel_rfl) (by kernel_rfl) (by kernel_rfl) (fun _ _ _ h => h) (Or.inl ⟨by first | (simp [Region.wanted, yielded]; done) | rfl, ?_⟩) (by assumption) ?_
  rotate_left
  · intro w hSw
    first | (go_simp; done) | (go_simp; with_reducible rfl)
  (try simp only [Act.put, List.getElem_toArray, List.getElem_cons_succ, List.getElem_cons_zero, List.setIfInBounds_toArray, List.set_cons_zero, List.set_cons_succ])
  refine wpAnyH_take (i := 3) (oi := _) (v := ?_) rfl (by kernel_rfl) (by kernel_rfl) (by kernel_rfl) (fun _ _ _ h => h) (Or.inl ⟨by first | (simp [Region.wanted, yielded]; done) | rfl, ?_⟩) (by assumption) ?_
  rotate_left
  · intro w hSw
    first | (go_simp; done) | (go_simp; with_reducible rfl)
  (try simp only [Act.put, List.getElem_toArray, List.getElem_cons_succ, List.getElem_cons_zero, List.setIfInBounds_toArray, List.set_cons_zero, List.set_cons_succ])
  refine wpAnyH_take (i := 4) (oi := _) (v := ?_) rfl (by kernel_rfl) (by kernel_rfl) (by kernel_rfl) (fun _ _ _ h => h) (Or.inl ⟨by first | (simp [Region.wanted, yielded]; done) | rfl, ?_⟩) (by assumption) ?_
  rotate_left
  · intro w hSw
    first | (go_simp; done) | (go_simp; with_reducible rfl)
  (try simp only [Act.put, List.getElem_toArray, List.getElem_cons_succ, List.getElem_cons_zero, List.setIfInBounds_toArray, List.set_cons_zero, List.set_cons_succ])
  refine wpAnyH_ready (rs := [2]) (by kernel_rfl) (by simp) (AllReadyH.cons (o := _) rfl (fun K_ hK_ => ?_) AllReadyH.nil)
  go_simp
  (go_at_call 42; refine hfind.out.mono ?_; rintro e w5 ⟨rfl, hb5⟩; have y0 := cell_keep hb5 (show World.cell? _ _ = some (.int .u32 a) from q0); have y1 := cell_keep hb5 (show World.cell? _ _ = some (.int .i64 (N : Int)) from q1))
  refine hK_.out _ _ ⟨y0, y1⟩ (fun hHeld => ?_)
  clear hK_ K_
  (try simp only [Act.put, List.getElem_toArray, List.getElem_cons_succ, List.getElem_cons_zero, List.setIfInBounds_toArray, List.set_cons_zero, List.set_cons_succ])
  refine wpAnyH_ready (rs := [5]) (by kernel_rfl) (by simp) (AllReadyH.cons (o := _) rfl (fun K_ hK_ => ?_) AllReadyH.nil)
  go_simp
  (go_at_call 47; refine (hwalk.out w5 hb5).mono ?_; rintro e w6 ⟨own', rfl, hI6, ho6, hk6⟩)
  refine hK_.out _ _ ⟨hk6.cell y0 hnA.out, hk6.cell y1 hnA.out⟩ (fun hHeld => ?_)
  clear hK_ K_
  (try simp only [Act.put, List.getElem_toArray, List.getElem_cons_succ, List.getElem_cons_zero, List.setIfInBounds_toArray, List.set_cons_zero, List.set_cons_succ])
  refine wpAnyH_done (by kernel_rfl) ?_ _
  obtain ⟨v, hv1, hv2, _⟩ := hI6
  have HV2 := mkHid hv2
  have hvc : w6.cell? ⟨S, 0, none⟩ = some v := blk_cell hv1 0
  have HBF : Hid (Below w.heap.size w w6) := (below_step (below_drew HB.out) hb5).trans (hk6.below (B := w.heap.size) (below_step (below_drew HB.out) hb5).size (fun i h => by have h2 : i = S := h; have := hsS.out; omega))
  obtain ⟨A, c, hve⟩ := Kd.R_slice hv2
  obtain ⟨n4, hn4⟩ : ∃ n4, n4 = ((enumW m (33 - N) (wayA a N)).map (·.f0)).length := ⟨_, rfl⟩
  rw [← hn4] at hve
  have HN4 := mkHid hn4
  subst hve
  clear hv1 hv2 hn4 hb5 ho6 hk6 y0 y1 q0 q1 hSW hwalk hfind
  go_wp2_with fail
  go_ret
  exact ⟨_, rfl, Kd.R_lower HV2.out (show w.heap.size ≤ S + 1 by have := hsS.out; omega), HBF.out⟩
end Go.Proofs.Ytnihacajjpcjeaa

end
section
namespace Go.Proofs.Ytnihacajjpcjeaa
open Go.RowKit Go.Proofs.Ytnihacajjpcjeaa.P Go.Proofs.YtnihacajjpcjeaaW.PrintWords Go.Proofs.YtnihacajjpcjeaaW.PrintLast Go.Proofs.YtnihacajjpcjeaaW.PrintMore
set_option linter.unusedVariables false
set_option linter.unusedSimpArgs false

theorem keep3' {P : Program} {f : FuncId} {args : Array Value} {X : World} {Q : Ending → Prop} (h : Calls P f args X fun e w' => Q e ∧ Below X.heap.size X w') (p1 p2 p3 : Addr) (v1 v2 v3 : Value) (h1 : X.cell? p1 = some v1) (h2 : X.cell? p2 = some v2) (h3 : X.cell? p3 = some v3) :
    Calls P f args X fun e w' => Q e ∧ (w'.cell? p1 = some v1 ∧ w'.cell? p2 = some v2 ∧ w'.cell? p3 = some v3) ∧ Below X.heap.size X w' := by
  refine h.mono ?_
  rintro e w' ⟨hq, hb⟩
  exact ⟨hq, ⟨cell_keep hb h1, cell_keep hb h2, cell_keep hb h3⟩, hb⟩
set_option maxHeartbeats 4000000 in
set_option maxRecDepth 100000 in
theorem walk_nil' (w : World) (a b : Int) (f : Value) : Calls Try.prog 47 #[.pointer none, .agg #[.int .u32 a, .int .i64 b], f] w fun e w' => e = .returned (.bool true) ∧ Below w.heap.size w w' := by
  have HB0 : Hid (Below w.heap.size w (w.alloc (.cells #[.int .u32 a, .int .i64 b] 34))) := Below.alloc (Below.refl _ w) (Nat.le_refl _) _
  go_enter Try.func47, Try.ntmps47
  go_wp2_with fail
  go_ret
  exact ⟨rfl, HB0.out⟩
set_option maxHeartbeats 4000000 in
set_option maxRecDepth 100000 in
theorem below_not (w : World) (bt : Nat) (a b : Int) (hM : addr_May.f a b = some false) : Calls Try.prog 26 #[.pointer (some ⟨bt, 0, none⟩), .agg #[.int .u32 a, .int .i64 b]] w fun e w' => e = .returned (.slice none 0 0) ∧ Below w.heap.size w w' := by
  have HM := mkHid hM
  clear hM
  go_enter Try.func26, Try.ntmps26
  go_upto_region 2 with fail
  obtain ⟨W, hW⟩ : ∃ W, W = (w.alloc (.cells #[.int .u32 a, .int .i64 b] 34)).alloc (.cells #[.slice none 0 0] 44) := ⟨_, rfl⟩
  obtain ⟨g, hg⟩ : ∃ g, g = w.heap.size + 1 := ⟨_, rfl⟩
  have q0 : W.cell? ⟨w.heap.size, 0, none⟩ = some (.int .u32 a) := by rw [hW]; go_simp
  have q1 : W.cell? ⟨w.heap.size, 1, none⟩ = some (.int .i64 b) := by rw [hW]; go_simp
  have q2 : W.cell? ⟨g, 0, none⟩ = some (.slice none 0 0) := by rw [hW, hg]; go_simp
  have HB : Hid (Below w.heap.size w W) := by rw [hW]; exact ((Below.refl w.heap.size w).alloc (Nat.le_refl _) _).alloc (by simp) _
  rw [← hW, ← hg]
  clear hW hg
  go_region_held3 (fun w' => w'.cell? ⟨w.heap.size, 0, none⟩ = some (.int .u32 a) ∧ w'.cell? ⟨w.heap.size, 1, none⟩ = some (.int .i64 b) ∧ w'.cell? ⟨g, 0, none⟩ = some (.slice none 0 0)) (go_keep)
    (first | (go_at_call 42; refine (keep3' (find_not _ bt a b HM.out) _ _ _ _ _ _ (by exact q0) (by exact q1) (by exact q2)).mono ?_; rintro e w2 ⟨rfl, ⟨k0, k1, k2⟩, hb2⟩) | (go_at_call 47; refine (keep3' (walk_nil' _ a b _) _ _ _ _ _ _ (by exact k0) (by exact k1) (by exact k2)).mono ?_; rintro e w3 ⟨rfl, ⟨k3, k4, k5⟩, hb3⟩))
  all_goals
    have HF : Hid (Below w.heap.size w w3) := below_step (below_step (below_drew HB.out) hb2) hb3
    clear hb2 hb3 k0 k1 k2 k3 k4 q0 q1 q2
    go_wp2_with fail
    go_ret
    exact ⟨rfl, HF.out⟩
end Go.Proofs.Ytnihacajjpcjeaa

end
section
namespace Go.Proofs.Ytnihacajjpcjeaa
open Go.RowKit Go.Proofs.Ytnihacajjpcjeaa.P Go.Proofs.YtnihacajjpcjeaaW.PrintWords Go.Proofs.YtnihacajjpcjeaaW.PrintLast Go.Proofs.YtnihacajjpcjeaaW.PrintMore
set_option linter.unusedVariables false
set_option linter.unusedSimpArgs false

theorem adrW_lt (π : Way) (h : π.length ≤ 32) : 0 ≤ adrW π ∧ adrW π < 4294967296 := by
  have hp : (0 : Int) < 2 ^ (32 - π.length) := Int.pow_pos (by decide)
  have hlt := numW_lt π
  refine ⟨Int.mul_nonneg (by omega) (Int.le_of_lt hp), ?_⟩
  unfold adrW
  have e : (4294967296 : Int) = 2 ^ π.length * 2 ^ (32 - π.length) := by rw [← Int.pow_add, show π.length + (32 - π.length) = 32 by omega]; rfl
  rw [e]
  refine Int.mul_lt_mul_of_pos_right ?_ hp
  have : ((2 ^ π.length : Nat) : Int) = 2 ^ π.length := by simp
  omega
theorem adrW_isA (π : Way) (h : π.length ≤ 32) : isA (adrW π) := by
  have := adrW_lt π h; exact ⟨this.1, by omega⟩
theorem adrW_mod (π : Way) : adrW π % 2 ^ (32 - π.length) = 0 := by unfold adrW; exact Int.mul_emod_left _ _
theorem adrW_may (π : Way) (h : π.length ≤ 32) : addr_May.f (adrW π) (π.length : Int) = some true := by
  rw [may_is _ _ (adrW_isA π h), (mayB_iff _ _).2 ⟨by omega, by omega, by
      unfold un; rw [show (32 - (π.length : Int)).toNat = 32 - π.length by omega]; exact adrW_mod π⟩]
theorem numW_inj : ∀ (n : Nat) (π ρ : Way), π.length = n → ρ.length = n → numW π = numW ρ → π = ρ := by
  intro n
  induction n with
  | zero => intro π ρ h k _; rw [List.length_eq_zero_iff.1 h, List.length_eq_zero_iff.1 k]
  | succ n ih =>
    intro π ρ h k e
    rcases List.eq_nil_or_concat π with rfl | ⟨π', b, rfl⟩
    · simp at h
    rcases List.eq_nil_or_concat ρ with rfl | ⟨ρ', c, rfl⟩
    · simp at k
    rw [List.concat_eq_append] at *
    rw [List.concat_eq_append] at *
    rw [numW_snoc, numW_snoc] at e
    have hb : b = c := by cases b <;> cases c <;> simp at e ⊢ <;> omega
    subst hb
    rw [ih π' ρ' (by simpa using h) (by simpa using k) (by omega)]
theorem wayA_adrW (π : Way) (h : π.length ≤ 32) : wayA (adrW π) π.length = π := by
  have hb := adrW_lt π h
  have h1 := adrW_way (adrW π) hb.1 hb.2 π.length h
  have h2 : adrA (adrW π) π.length = adrW π := by unfold adrA; rw [adrW_mod]; omega
  rw [h2] at h1
  refine numW_inj π.length _ _ (wayA_len _ _) rfl ?_
  unfold adrW at h1
  rw [wayA_len] at h1
  have hp : (2 : Int) ^ (32 - π.length) ≠ 0 := by have : (0 : Int) < 2 ^ (32 - π.length) := Int.pow_pos (by decide); omega
  have := Int.eq_of_mul_eq_mul_right hp h1
  have h3 : adrW π = (numW π : Int) * 2 ^ (32 - π.length) := rfl
  rw [← h3] at this
  omega
def ownW (m : Way → Option Int) (π : Way) : List S34 := match m π with | some _ => [prefW π] | none => []
theorem enum_step (m : Way → Option Int) (π : Way) (h : π.length < 32) : (enumW m (33 - π.length) π).map (·.f0) = ownW m π ++ ((enumW m (33 - (π ++ [false]).length) (π ++ [false])).map (·.f0) ++ (enumW m (33 - (π ++ [true]).length) (π ++ [true])).map (·.f0)) := by
  obtain ⟨d, hd⟩ : ∃ d, d = 32 - π.length := ⟨_, rfl⟩
  rw [show 33 - π.length = d + 1 by omega, show 33 - (π ++ [false]).length = d by simp; omega, show 33 - (π ++ [true]).length = d by simp; omega]
  simp only [enumW, ownW, List.map_append]
  cases m π <;> rfl
theorem enum_sub (m : Way → Option Int) : ∀ (n : Nat) (π : Way), π.length = n → π.length ≤ 32 → (enumW m (33 - π.length) π).length ≤ (enumW m 33 []).length := by
  intro n
  induction n with
  | zero => intro π h _; rw [List.length_eq_zero_iff.1 h]; exact Nat.le_refl _
  | succ n ih =>
    intro π h hle
    rcases List.eq_nil_or_concat π with rfl | ⟨π', b, rfl⟩
    · simp at h
    rw [List.concat_eq_append] at *
    have hl : π'.length = n := by simpa using h
    refine Nat.le_trans ?_ (ih π' hl (by omega))
    have e := congrArg List.length (enum_step m π' (by omega))
    simp only [List.length_append, List.length_map] at e
    rw [e]
    simp only [List.length_append, List.length_singleton]
    cases b <;> simp <;> omega
theorem below_w (w : World) (bt : Nat) (ownT : Nat → Prop) (n : Int) (m : Way → Option Int) (l : List S43) (hT : Tri kI w bt ownT n m) (hS : ∀ b, ownT b → b < w.heap.size) (hR : Rel m l) (hl : l.length ≤ 100) (π : Way) (hπ : π.length ≤ 32) :
    Calls Try.prog 26 #[.pointer (some ⟨bt, 0, none⟩), .agg #[.int .u32 (adrW π), .int .i64 (π.length : Int)]] w fun e w' => ∃ v : Value, e = .returned v ∧ Kd.R k34 34 w' w.heap.size (fun _ => True) v ((enumW m (33 - π.length) π).map (·.f0)) ∧ Below w.heap.size w w' := by
  have h := below_calls w bt ownT n m l hT hS hR hl (adrW π) π.length (adrW_isA π hπ) hπ (adrW_may π hπ) (by rw [wayA_adrW π hπ]) (by rw [wayA_adrW π hπ]; exact Nat.le_trans (enum_sub m _ π rfl hπ) (by rw [enum_rel hR]; exact hl))
  rw [wayA_adrW π hπ] at h
  exact h
theorem may_way (a b : Int) (ha : isA a) (hM : addr_May.f a b = some true) : ∃ π : Way, π.length ≤ 32 ∧ a = adrW π ∧ b = (π.length : Int) ∧ wayA a b.toNat = π := by
  have hb := may_bits hM
  have hok : okP ⟨a, b⟩ := ⟨ha, by rw [may_is _ _ ha] at hM; exact Option.some.inj hM⟩
  have hp := okP_pref hok
  refine ⟨wayA a b.toNat, by rw [wayA_len]; omega, ?_, by rw [wayA_len]; omega, rfl⟩
  exact (congrArg S34.f0 hp).symm
theorem same34_ev (l : List S34) (hl : l.length ≤ 1000000) : Evt (fun k => whirligigref01_Same.f k l l) true := by
  unfold whirligigref01_Same.f
  refine Evt.ite_pos (by first | rfl | trivial) ?_
  have key : ∀ (d : Nat) (i : Int), 0 ≤ i → i ≤ l.length → l.length - i = d → Evt (fun k => whirligigref01_Same.l0 k l l i) true := by
    intro d
    induction d with
    | zero =>
      intro i h0 h1 hd
      refine Evt.step ?_
      simp only [whirligigref01_Same.l0]
      exact Evt.ite_neg (by omega) (Evt.of fun k => rfl)
    | succ d ih =>
      intro i h0 h1 hd
      refine Evt.step ?_
      simp only [whirligigref01_Same.l0]
      have := ih (i + 1) (by omega) (by omega) (by omega)
      refine Evt.ite_pos (by omega) (Evt.ite_pos h0 (Evt.ite_pos (by omega) (Evt.ite_neg (by simp) ?_)))
      rw [wrap64_in _ (by omega) (by omega)]
      exact this
  exact key l.length 0 (by omega) (by omega) (by omega)
/-- two rows of one list are the same -/
theorem same_rows {w : World} {A1 A2 : Option Addr} {n1 c1 n2 c2 b1 b2 : Nat} {E P : List S34} {ok1 ok2 : Nat → Prop} (h1 : Kd.R k34 34 w b1 ok1 (.slice A1 n1 c1) E) (h2 : Kd.R k34 34 w b2 ok2 (.slice A2 n2 c2) P) (he : E = P) (hl : E.length ≤ 1000000) :
    Calls Try.prog 28 #[.slice A1 n1 c1, .slice A2 n2 c2] w fun e w' => e = .returned (.bool true) ∧ Drawn0 w w' := by
  subst he
  obtain ⟨a1, a2, a3⟩ := Kd.R_reads' h1
  obtain ⟨b1, b2, b3⟩ := Kd.R_reads' h2
  obtain ⟨k, hk, _⟩ := Evt.two (same34_ev E hl) (same34_ev E hl)
  subst a1 b1
  exact whirligigref01_Same.calls k A1 c1 E A2 c2 E true w a3 a2 b3 b2 hk
end Go.Proofs.Ytnihacajjpcjeaa

end
section
namespace Go.Proofs.Ytnihacajjpcjeaa
open Go.RowKit Go.Proofs.Ytnihacajjpcjeaa.P Go.Proofs.YtnihacajjpcjeaaW.PrintWords Go.Proofs.YtnihacajjpcjeaaW.PrintLast Go.Proofs.YtnihacajjpcjeaaW.PrintMore
set_option linter.unusedVariables false
set_option linter.unusedSimpArgs false

/-- the prefixes on the way of an address that have a value, the first i lengths -/
def abvT {V : Type} (m : Way → Option V) (a : Int) : Nat → List S34
  | 0 => []
  | i + 1 => match m (wayA a i) with
    | some _ => abvT m a i ++ [⟨adrA a i, (i : Int)⟩]
    | none => abvT m a i
theorem abv_some {V : Type} {m : Way → Option V} {a : Int} {i : Nat} {v : V} (h : m (wayA a i) = some v) : abvT m a (i + 1) = abvT m a i ++ [⟨adrA a i, (i : Int)⟩] := by simp [abvT, h]
theorem abv_none {V : Type} {m : Way → Option V} {a : Int} {i : Nat} (h : m (wayA a i) = none) : abvT m a (i + 1) = abvT m a i := by simp [abvT, h]
theorem abv_stay {V : Type} {m : Way → Option V} {a : Int} {i : Nat} : ∀ d, (∀ j, i ≤ j → j < i + d → m (wayA a j) = none) → abvT m a (i + d) = abvT m a i := by
  intro d
  induction d with
  | zero => intro _; rfl
  | succ d ih =>
    intro h
    rw [← Nat.add_assoc, abv_none (h (i + d) (by omega) (by omega))]
    exact ih (fun j h1 h2 => h j h1 (by omega))
theorem abv_len {V : Type} (m : Way → Option V) (a : Int) (i : Nat) : (abvT m a i).length ≤ i := by
  induction i with
  | zero => exact Nat.le_refl _
  | succ i ih =>
    cases h : m (wayA a i) with
    | some v => rw [abv_some h]; simp; omega
    | none => rw [abv_none h]; omega

set_option maxHeartbeats 8000000 in
set_option maxRecDepth 100000 in
theorem above_not (w : World) (bt : Nat) (a b : Int) (hM : addr_May.f a b = some false) :
    Calls Try.prog 20 #[.pointer (some ⟨bt, 0, none⟩), .agg #[.int .u32 a, .int .i64 b]] w fun e w' => e = .returned (.slice none 0 0) ∧ Below w.heap.size w w' := by
  have HM := mkHid hM
  have HB0 : Hid (Below w.heap.size w (w.alloc (.cells #[.int .u32 a, .int .i64 b] 34))) := Below.alloc (Below.refl _ w) (Nat.le_refl _) _
  clear hM
  go_enter Try.func20, Try.ntmps20
  go_wp2_with fail
  refine (addr_May.calls a b false _ HM.out).mono ?_
  rintro e w1 ⟨rfl, hb⟩
  have HB := mkHid (below_step HB0.out hb)
  clear hb
  go_wp2_with fail
  go_ret
  exact ⟨rfl, HB.out⟩
set_option maxHeartbeats 8000000 in
set_option maxRecDepth 100000 in
theorem above_calls (w : World) (bt : Nat) (own : Nat → Prop) (n : Int) (m : Way → Option Int) (hT : Tri kI w bt own n m) (a : Int) (N : Nat) (h0 : 0 ≤ a) (h1 : a < 4294967296) (b1 : N ≤ 32) (hM : addr_May.f a N = some true) :
    Calls Try.prog 20 #[.pointer (some ⟨bt, 0, none⟩), .agg #[.int .u32 a, .int .i64 N]] w fun e w' => ∃ v : Value, e = .returned v ∧ Kd.R k34 34 w' w.heap.size (fun _ => True) v (abvT m a (N + 1)) ∧ Below w.heap.size w w' := by
  have HM := mkHid hM
  obtain ⟨D, blk, g1, g2, g3, g4⟩ := hT
  have G1 := mkHid g1
  have hbt := blk_lt g1.root
  have HB0 : Hid (Below w.heap.size w (w.alloc (.cells #[.int .u32 a, .int .i64 N] 34))) := Below.alloc (Below.refl _ w) (Nat.le_refl _) _
  have hx0 : (w.alloc (.cells #[.int .u32 a, .int .i64 N] 34)).cell? ⟨w.heap.size, 0, none⟩ = some (.int .u32 a) := by go_simp
  have hx1 : (w.alloc (.cells #[.int .u32 a, .int .i64 N] 34)).cell? ⟨w.heap.size, 1, none⟩ = some (.int .i64 N) := by go_simp
  clear g1 g2 g3 g4 hM
  go_enter Try.func20, Try.ntmps20
  go_wp2_with fail
  refine (addr_May.calls a N true _ HM.out).mono ?_
  rintro e w1 ⟨rfl, hb⟩
  have HB1 := mkHid (below_step HB0.out hb)
  have hs : w.heap.size < w1.heap.size := by have := hb.size; simp at this; omega
  have y0 : w1.cell? ⟨w.heap.size, 0, none⟩ = some (.int .u32 a) := (hb.cell (by simp)).trans hx0
  have y1 : w1.cell? ⟨w.heap.size, 1, none⟩ = some (.int .i64 N) := (hb.cell (by simp)).trans hx1
  clear hb hx0 hx1 HB0
  go_upto_region 5 with fail
  obtain ⟨S1, hS1⟩ : ∃ S1, S1 = w1.heap.size := ⟨_, rfl⟩
  obtain ⟨W, hW⟩ : ∃ W, W = w1.alloc (.cells #[.int .u32 0, .int .i64 0] 34) := ⟨_, rfl⟩
  have HBW : Hid (Below w1.heap.size w1 W) := by rw [hW]; exact Below.alloc (Below.refl _ w1) (Nat.le_refl _) _
  have R10 : Hid (W.heap[S1]? = some (.cells #[.int .u32 0, .int .i64 0] 34 (0, 0))) := by rw [hW, hS1]; exact heap_alloc_new _ _
  have hsl : Hid (w.heap.size < S1) := by rw [hS1]; exact hs
  have q0 : W.cell? ⟨w.heap.size, 0, none⟩ = some (.int .u32 a) := (HBW.out.cell hs).trans y0
  have q1 : W.cell? ⟨w.heap.size, 1, none⟩ = some (.int .i64 N) := (HBW.out.cell hs).trans y1
  have HB : Hid (Below w.heap.size w W) := below_step HB1.out HBW.out
  have HTW := mkHid (G1.out.below HB.out)
  have hcW := HTW.out.cell0
  have hsW : S1 < W.heap.size := blk_lt R10.out
  rw [← hW, ← hS1]
  clear hW hS1 y0 y1 HTW HB1 HBW hs
  go_wp2_with fail
  go_loopg [5, 7] N (fun kq v5 v7 wr => ∃ i : Nat, v7 = ptrT D blk (wayA a i) ∧ i ≤ N ∧ i + kq = N ∧ wr.cell? ⟨w.heap.size, 0, none⟩ = some (.int .u32 a) ∧ wr.cell? ⟨w.heap.size, 1, none⟩ = some (.int .i64 N) ∧ Hid (wr.heap[S1]? = some (.cells #[.int .u32 (adrA a i), .int .i64 i] 34 (0, 0))) ∧ Hid (Kd.R k34 34 wr (S1 + 1) (fun _ => True) v5 (abvT m a i)) ∧ Hid (Below w.heap.size w wr))
  case atStart => exact ⟨0, rfl, by omega, by omega, q0, q1, (by rw [adrA_zero a h0 h1]; exact R10.out), Kd.R_nil _ _ _ _ _, HB.out⟩
  case round =>
    clear q0 q1 R10 HB hcW hsW
    obtain ⟨i, rfl, hi, hk, q0, q1, R10, HR, HB⟩ := hrel
    have HT := mkHid (G1.out.below HB.out)
    obtain ⟨A, c, hv⟩ := Kd.R_slice HR.out
    obtain ⟨ln, hln⟩ : ∃ ln, ln = (abvT m a i).length := ⟨_, rfl⟩
    rw [← hln] at hv
    subst hv
    have HLN : Hid (ln = (abvT m a i).length ∧ ln ≤ 33) := ⟨hln, by have := abv_len m a i; omega⟩
    clear hln
    cases hD : D (wayA a i) with
    | false =>
      rw [ptrT_none hD]
      have hbf : Hid (abvT m a (N + 1) = abvT m a i) := by
        have := abv_stay (m := m) (a := a) (i := i) (N + 1 - i) (fun j h1 h2 => by
          obtain ⟨ρ, hρ⟩ := wayA_split a h1
          cases hv : m (wayA a j) with
          | none => rfl
          | some v =>
            have h3 := HT.out.nodes.sup (wayA a j) (by rw [hv]; rfl)
            rw [hρ] at h3
            rw [HT.out.nodes.ups ρ _ h3] at hD; cases hD)
        rw [show i + (N + 1 - i) = N + 1 by omega] at this
        exact this
      go_wp2_with fail
      go_ret
      exact ⟨_, rfl, by rw [hbf.out]; exact Kd.R_lower HR.out (by have := hsl.out; omega), HB.out⟩
    | true =>
      rw [ptrT_some hD]
      have c2 := HT.out.nodes.is hD
      have u0 : wr.cell? ⟨S1, 0, none⟩ = some (.int .u32 (adrA a i)) := blk_cell R10.out 0
      have u1 : wr.cell? ⟨S1, 1, none⟩ = some (.int .i64 i) := blk_cell R10.out 1
      cases hm : m (wayA a i)
      case' some v =>
        rw [hm] at c2
        have c2' : wr.cell? ⟨blk (wayA a i), 2, none⟩ = some (.bool true) := c2
        have hsz : S1 + 1 ≤ wr.heap.size := blk_lt R10.out
        clear c2
        go_upto_region 9 with (at_builtin; refine Kd.R_append k34 (w0 := wr) (S1 + 1) ?a1 (.tmp 28) (.tmp 30) 44 34 (.agg #[(.int .u32 0), (.int .i64 0)]) 16 ?a2 ?a3 ?a4 ?a5 ?a6 ?a7 (.slice A ln c) (abvT m a i) ⟨adrA a i, (i : Int)⟩ [.int .u32 (adrA a i), .int .i64 i] (fun _ => True) (fun _ => False) ?a8 ?a9 ?aP ?aE ?aF ?aO ?aB ?aS ?aL ?_; (case a1 => rfl); (case a2 => rfl); (case a3 => exact Try.underlying44); (case a4 => exact info34); (case a5 => rfl); (case a6 => decide); (case a7 => omega); (case a8 => rfl); (case a9 => rfl); (case aP => exact k34_mkM _ _ _ ⟨adrA a i, (i : Int)⟩); (case aE => exact fun _ h => h.elim); (case aF => exact fun _ _ => trivial); (case aO => exact HR.out); (case aB => exact Below.refl _ _); (case aS => exact hsz); (case aL => have := HLN.out; omega); intro v1 w3 hR3 hB3 _ _; obtain ⟨A4, c4, h4⟩ := Kd.R_slice hR3; obtain ⟨n4, hn4⟩ : ∃ n4 : Nat, n4 = (abvT m a i ++ [(⟨adrA a i, (i : Int)⟩ : S34)]).length := ⟨_, rfl⟩; rw [← hn4] at h4; subst h4; have HN4 := mkHid hn4; clear hn4)
        have R10' : Hid (w3.heap[S1]? = some (.cells #[.int .u32 (adrA a i), .int .i64 i] 34 (0, 0))) := (hB3.block S1 (by omega)).trans R10.out
        have HB' : Hid (Below w.heap.size w w3) := HB.out.trans (hB3.mono (by have := hsl.out; omega))
        have HR' : Hid (Kd.R k34 34 w3 (S1 + 1) (fun _ => True) (.slice A4 n4 c4) (abvT m a (i + 1))) := by rw [abv_some hm]; exact hR3
        have q0' : w3.cell? ⟨w.heap.size, 0, none⟩ = some (.int .u32 a) := (hB3.cell (show w.heap.size < S1 + 1 by have := hsl.out; omega)).trans q0
        have q1' : w3.cell? ⟨w.heap.size, 1, none⟩ = some (.int .i64 N) := (hB3.cell (show w.heap.size < S1 + 1 by have := hsl.out; omega)).trans q1
        clear hB3 hR3 HN4 HLN HR R10 HB HT q0 q1 u0 u1 c2' hsz
      case' none =>
        rw [hm] at c2
        have c2' : wr.cell? ⟨blk (wayA a i), 2, none⟩ = some (.bool false) := c2
        clear c2
        go_upto_region 9 with fail
        obtain ⟨w3, hw3⟩ : ∃ w3, w3 = wr := ⟨_, rfl⟩
        obtain ⟨A4, hA4⟩ : ∃ A4, A4 = A := ⟨_, rfl⟩
        obtain ⟨n4, hn4⟩ : ∃ n4, n4 = ln := ⟨_, rfl⟩
        obtain ⟨c4, hc4⟩ : ∃ c4, c4 = c := ⟨_, rfl⟩
        have R10' : Hid (w3.heap[S1]? = some (.cells #[.int .u32 (adrA a i), .int .i64 i] 34 (0, 0))) := by rw [hw3]; exact R10.out
        have HB' : Hid (Below w.heap.size w w3) := by rw [hw3]; exact HB.out
        have HR' : Hid (Kd.R k34 34 w3 (S1 + 1) (fun _ => True) (.slice A4 n4 c4) (abvT m a (i + 1))) := by rw [abv_none hm, hw3, hA4, hn4, hc4]; exact HR.out
        have q0' : w3.cell? ⟨w.heap.size, 0, none⟩ = some (.int .u32 a) := by rw [hw3]; exact q0
        have q1' : w3.cell? ⟨w.heap.size, 1, none⟩ = some (.int .i64 N) := by rw [hw3]; exact q1
        rw [← hw3, ← hA4, ← hn4, ← hc4]
        clear hw3 hA4 hn4 hc4 HLN HR R10 HB HT q0 q1 u0 u1 c2'
      all_goals
        have HT := mkHid (G1.out.below HB'.out)
        have u0 : w3.cell? ⟨S1, 0, none⟩ = some (.int .u32 (adrA a i)) := blk_cell R10'.out 0
        have u1 : w3.cell? ⟨S1, 1, none⟩ = some (.int .i64 i) := blk_cell R10'.out 1
        clear hm
        by_cases hiN : i = N
        · subst hiN
          go_wp2_with fail
          go_ret
          exact ⟨_, rfl, Kd.R_lower HR'.out (by have := hsl.out; omega), HB'.out⟩
        · have e32 : ((i : Int) == (N : Int)) = false := beq_eq_false_iff_ne.mpr (by omega)
          have hw31 : IntKind.i64.wrap (31 - (i : Int)) = ((31 - i : Nat) : Int) := by rw [IntWalk.i64_in _ (by omega)]; omega
          have f0 : w3.frozen? ⟨S1, 0, none⟩ = false := blk_frozen R10'.out _
          have f1 : w3.frozen? ⟨S1, 1, none⟩ = false := blk_frozen R10'.out _
          cases hB : bitB a i with
          | false =>
            have hbit : Hid (trie_bit.f a (i : Int) = some ((bitB a i).toNat : Int)) := tbit_ev a i h0 h1 (by omega)
            rw [hB] at hbit
            have hor := mkHid (adrA_or0 a i (by omega) h0 h1 hB)
            go_upto_region 10 with fail
            go_upto_region 11 with (first | (go_at_call 45; (with_reducible refine (trie_bit.calls a i ((false.toNat : Nat) : Int) _ hbit.out).mono ?_); rintro e w' ⟨rfl, ⟨nd, rfl⟩⟩; (try first | exact ⟨rfl, _, World.drewN_drewN _ _ _⟩)))
            go_region
            obtain ⟨W3, hW3⟩ : ∃ W3, W3 = (w3.drewN (nd + 1)).setCell ⟨S1, 0, none⟩ (.int .u32 (adrA a (i + 1))) := ⟨_, rfl⟩
            have R10b : Hid (W3.heap[S1]? = some (.cells #[.int .u32 (adrA a (i + 1)), .int .i64 i] 34 (0, 0))) := by
              rw [hW3]; exact blk_set (blk_drewN R10'.out _) 0 _
            have HB2 : Hid (Below w.heap.size w W3) := by
              rw [hW3]; exact (pw_below_drewN HB'.out _).setCell (show w.heap.size ≤ S1 by have := hsl.out; omega) _
            have HT3 := mkHid (G1.out.below HB2.out)
            have HR2 : Hid (Kd.R k34 34 W3 (S1 + 1) (fun _ => True) (.slice A4 n4 c4) (abvT m a (i + 1))) := by
              rw [hW3]; exact Kd.R_mono (Kd.R_far (Kd.R_bound (Kd.R_drewN HR'.out _)) (p := ⟨S1, 0, none⟩) (fun k hk => by have := hk.2.1; show k ≠ S1; omega) _) (fun _ _ => trivial)
            have q0 : W3.cell? ⟨w.heap.size, 0, none⟩ = some (.int .u32 a) := by
              rw [hW3, World.cell?_setCell_other _ _ _ _ (fun e => absurd (congrArg Addr.block e) (show S1 ≠ w.heap.size by have := hsl.out; omega))]; exact q0'
            have q1 : W3.cell? ⟨w.heap.size, 1, none⟩ = some (.int .i64 N) := by
              rw [hW3, World.cell?_setCell_other _ _ _ _ (fun e => absurd (congrArg Addr.block e) (show S1 ≠ w.heap.size by have := hsl.out; omega))]; exact q1'
            rw [hor.out, ← hW3]
            clear hW3 R10' HB' HR' q0' q1' u0 u1 f0 f1 HT hor
            have u1 : W3.cell? ⟨S1, 1, none⟩ = some (.int .i64 i) := blk_cell R10b.out 1
            have f1 : W3.frozen? ⟨S1, 1, none⟩ = false := blk_frozen R10b.out _
            have hwi : IntKind.i64.wrap ((i : Int) + 1) = ((i + 1 : Nat) : Int) := by rw [IntWalk.i64_in _ (by omega)]; omega
            have hpt : ptrT D blk (wayA a i ++ [false]) = ptrT D blk (wayA a (i + 1)) := by rw [wayA, hB]
            go_upto_region 13 with fail
            obtain ⟨W4, hW4⟩ : ∃ W4, W4 = W3.setCell ⟨S1, 1, none⟩ (.int .i64 ((i + 1 : Nat) : Int)) := ⟨_, rfl⟩
            have R10c : Hid (W4.heap[S1]? = some (.cells #[.int .u32 (adrA a (i + 1)), .int .i64 ((i + 1 : Nat) : Int)] 34 (0, 0))) := by rw [hW4]; exact blk_set R10b.out 1 _
            have HB5 : Hid (Below w.heap.size w W4) := by rw [hW4]; exact HB2.out.setCell (show w.heap.size ≤ S1 by have := hsl.out; omega) _
            have HT4 := mkHid (G1.out.below HB5.out)
            have HR5 : Hid (Kd.R k34 34 W4 (S1 + 1) (fun _ => True) (.slice A4 n4 c4) (abvT m a (i + 1))) := by
              rw [hW4]; exact Kd.R_mono (Kd.R_far (Kd.R_bound HR2.out) (p := ⟨S1, 1, none⟩) (fun k hk => by have := hk.2.1; show k ≠ S1; omega) _) (fun _ _ => trivial)
            have v0 : W4.cell? ⟨w.heap.size, 0, none⟩ = some (.int .u32 a) := by
              rw [hW4, World.cell?_setCell_other _ _ _ _ (fun e => absurd (congrArg Addr.block e) (show S1 ≠ w.heap.size by have := hsl.out; omega))]; exact q0
            have v1 : W4.cell? ⟨w.heap.size, 1, none⟩ = some (.int .i64 N) := by
              rw [hW4, World.cell?_setCell_other _ _ _ _ (fun e => absurd (congrArg Addr.block e) (show S1 ≠ w.heap.size by have := hsl.out; omega))]; exact q1
            have hk : W4.cell? ⟨blk (wayA a i), 0, none⟩ = some (ptrT D blk (wayA a i ++ [false])) := HT4.out.nodes.kid hD false
            rw [hpt] at hk
            rw [show ((i : Int) + 1) = ((i + 1 : Nat) : Int) from rfl, ← hW4]
            clear hW4 R10b HB2 HT3 HR2 q0 q1 u1 f1 hpt
            go_wp2_with fail
            go_roundg (gk - 1)
            case measure => omega
            case rel => exact ⟨i + 1, rfl, by omega, by omega, v0, v1, R10c.out, HR5.out, HB5.out⟩
          | true =>
            have hbit : Hid (trie_bit.f a (i : Int) = some ((bitB a i).toNat : Int)) := tbit_ev a i h0 h1 (by omega)
            rw [hB] at hbit
            have hor := mkHid (adrA_or1 a i (by omega) h0 h1 hB)
            go_upto_region 10 with fail
            go_upto_region 11 with (first | (go_at_call 45; (with_reducible refine (trie_bit.calls a i ((true.toNat : Nat) : Int) _ hbit.out).mono ?_); rintro e w' ⟨rfl, ⟨nd, rfl⟩⟩; (try first | exact ⟨rfl, _, World.drewN_drewN _ _ _⟩)))
            go_region
            obtain ⟨W3, hW3⟩ : ∃ W3, W3 = (w3.drewN (nd + 1)).setCell ⟨S1, 0, none⟩ (.int .u32 (adrA a (i + 1))) := ⟨_, rfl⟩
            have R10b : Hid (W3.heap[S1]? = some (.cells #[.int .u32 (adrA a (i + 1)), .int .i64 i] 34 (0, 0))) := by
              rw [hW3]; exact blk_set (blk_drewN R10'.out _) 0 _
            have HB2 : Hid (Below w.heap.size w W3) := by
              rw [hW3]; exact (pw_below_drewN HB'.out _).setCell (show w.heap.size ≤ S1 by have := hsl.out; omega) _
            have HT3 := mkHid (G1.out.below HB2.out)
            have HR2 : Hid (Kd.R k34 34 W3 (S1 + 1) (fun _ => True) (.slice A4 n4 c4) (abvT m a (i + 1))) := by
              rw [hW3]; exact Kd.R_mono (Kd.R_far (Kd.R_bound (Kd.R_drewN HR'.out _)) (p := ⟨S1, 0, none⟩) (fun k hk => by have := hk.2.1; show k ≠ S1; omega) _) (fun _ _ => trivial)
            have q0 : W3.cell? ⟨w.heap.size, 0, none⟩ = some (.int .u32 a) := by
              rw [hW3, World.cell?_setCell_other _ _ _ _ (fun e => absurd (congrArg Addr.block e) (show S1 ≠ w.heap.size by have := hsl.out; omega))]; exact q0'
            have q1 : W3.cell? ⟨w.heap.size, 1, none⟩ = some (.int .i64 N) := by
              rw [hW3, World.cell?_setCell_other _ _ _ _ (fun e => absurd (congrArg Addr.block e) (show S1 ≠ w.heap.size by have := hsl.out; omega))]; exact q1'
            rw [hor.out, ← hW3]
            clear hW3 R10' HB' HR' q0' q1' u0 u1 f0 f1 HT hor
            have u1 : W3.cell? ⟨S1, 1, none⟩ = some (.int .i64 i) := blk_cell R10b.out 1
            have f1 : W3.frozen? ⟨S1, 1, none⟩ = false := blk_frozen R10b.out _
            have hwi : IntKind.i64.wrap ((i : Int) + 1) = ((i + 1 : Nat) : Int) := by rw [IntWalk.i64_in _ (by omega)]; omega
            have hpt : ptrT D blk (wayA a i ++ [true]) = ptrT D blk (wayA a (i + 1)) := by rw [wayA, hB]
            go_upto_region 13 with fail
            obtain ⟨W4, hW4⟩ : ∃ W4, W4 = W3.setCell ⟨S1, 1, none⟩ (.int .i64 ((i + 1 : Nat) : Int)) := ⟨_, rfl⟩
            have R10c : Hid (W4.heap[S1]? = some (.cells #[.int .u32 (adrA a (i + 1)), .int .i64 ((i + 1 : Nat) : Int)] 34 (0, 0))) := by rw [hW4]; exact blk_set R10b.out 1 _
            have HB5 : Hid (Below w.heap.size w W4) := by rw [hW4]; exact HB2.out.setCell (show w.heap.size ≤ S1 by have := hsl.out; omega) _
            have HT4 := mkHid (G1.out.below HB5.out)
            have HR5 : Hid (Kd.R k34 34 W4 (S1 + 1) (fun _ => True) (.slice A4 n4 c4) (abvT m a (i + 1))) := by
              rw [hW4]; exact Kd.R_mono (Kd.R_far (Kd.R_bound HR2.out) (p := ⟨S1, 1, none⟩) (fun k hk => by have := hk.2.1; show k ≠ S1; omega) _) (fun _ _ => trivial)
            have v0 : W4.cell? ⟨w.heap.size, 0, none⟩ = some (.int .u32 a) := by
              rw [hW4, World.cell?_setCell_other _ _ _ _ (fun e => absurd (congrArg Addr.block e) (show S1 ≠ w.heap.size by have := hsl.out; omega))]; exact q0
            have v1 : W4.cell? ⟨w.heap.size, 1, none⟩ = some (.int .i64 N) := by
              rw [hW4, World.cell?_setCell_other _ _ _ _ (fun e => absurd (congrArg Addr.block e) (show S1 ≠ w.heap.size by have := hsl.out; omega))]; exact q1
            have hk : W4.cell? ⟨blk (wayA a i), 1, none⟩ = some (ptrT D blk (wayA a i ++ [true])) := HT4.out.nodes.kid hD true
            rw [hpt] at hk
            rw [show ((i : Int) + 1) = ((i + 1 : Nat) : Int) from rfl, ← hW4]
            clear hW4 R10b HB2 HT3 HR2 q0 q1 u1 f1 hpt
            go_wp2_with fail
            go_roundg (gk - 1)
            case measure => omega
            case rel => exact ⟨i + 1, rfl, by omega, by omega, v0, v1, R10c.out, HR5.out, HB5.out⟩
end Go.Proofs.Ytnihacajjpcjeaa

end
section
set_option linter.unusedVariables false
set_option linter.unusedSimpArgs false
namespace Go.Proofs.Ytnihacajjpcjeaa.P
open Go.RowKit Go.Proofs.YtnihacajjpcjeaaW.PrintWords Go.Proofs.YtnihacajjpcjeaaW.PrintLast Go.Proofs.YtnihacajjpcjeaaW.PrintMore

/-- does a prefix have an address? -/
def inB (a b x : Int) : Bool := decide (x - x % un b = a)
theorem refHasLoop_ev : ∀ (d : Nat) (a b x i : Int), isA a → isA x → 0 ≤ i → i ≤ b → b ≤ 32 → b - i = d → a / un i = x / un i →
    Evt (fun k => whirligigref01_Has.l0 k x i a b) (decide (a / un b = x / un b)) := by
  intro d
  induction d with
  | zero =>
    intro a b x i ha hx h0 h1 h2 hd he
    obtain rfl : i = b := by omega
    refine Evt.step ?_
    simp only [whirligigref01_Has.l0]
    refine Evt.ite_neg (by omega) (Evt.of fun k => ?_)
    rw [decide_eq_true he]
  | succ d ih =>
    intro a b x i ha hx h0 h1 h2 hd he
    refine Evt.step ?_
    simp only [whirligigref01_Has.l0]
    refine Evt.ite_pos (by omega) ?_
    refine Evt.bind (refBit_ev a i ha h0 (by omega)) ?_
    refine Evt.bind (refBit_ev x i hx h0 (by omega)) ?_
    have hp := un_pos (i + 1)
    have ea : a / un (i + 1) / 2 = a / un i := by rw [Int.ediv_ediv_of_nonneg (Int.le_of_lt hp), Int.mul_comm, ← un_succ i (by omega)]
    have ex : x / un (i + 1) / 2 = x / un i := by rw [Int.ediv_ediv_of_nonneg (Int.le_of_lt hp), Int.mul_comm, ← un_succ i (by omega)]
    by_cases hb : bitI a i = bitI x i
    · refine Evt.ite_pos hb ?_
      rw [wrap64_in _ (by omega) (by omega)]
      refine ih a b x (i + 1) ha hx (by omega) (by omega) h2 (by omega) ?_
      unfold bitI at hb
      omega
    · refine Evt.ite_neg hb (Evt.of fun k => ?_)
      rw [decide_eq_false]
      intro hn
      apply hb
      have key : ∀ j : Nat, i + 1 + j ≤ 32 → a / un (i + 1 + j) = x / un (i + 1 + j) → a / un (i + 1) = x / un (i + 1) := by
        intro j
        induction j with
        | zero => intro _ h; simpa using h
        | succ j ihj =>
          intro hj h
          apply ihj (by omega)
          have hp2 := un_pos (i + 1 + j + 1)
          have e : ∀ z : Int, z / un (i + 1 + j) = z / un (i + 1 + j + 1) / 2 := fun z => by
            rw [Int.ediv_ediv_of_nonneg (Int.le_of_lt hp2), Int.mul_comm, ← un_succ (i + 1 + j) (by omega)]
          rw [e a, e x]
          have h' : a / un (i + 1 + j + 1) = x / un (i + 1 + j + 1) := by
            rw [show i + 1 + (j : Int) + 1 = i + 1 + ((j + 1 : Nat) : Int) by omega]; exact h
          rw [h']
      have := key (b - i - 1).toNat (by omega) (by rw [show i + 1 + (((b - i - 1).toNat : Nat) : Int) = b by omega]; exact hn)
      unfold bitI
      rw [this]
theorem div_in (a b x : Int) (hm : a % un b = 0) : (a / un b = x / un b) ↔ x - x % un b = a := by
  have hp := un_pos b
  have e1 := Int.emod_add_mul_ediv a (un b)
  have e2 := Int.emod_add_mul_ediv x (un b)
  rw [hm] at e1
  constructor
  · intro h; rw [← h] at e2; omega
  · intro h
    have : un b * (x / un b) = un b * (a / un b) := by omega
    exact (Int.eq_of_mul_eq_mul_left (by omega) this).symm
theorem refHas_ev (a b x : Int) (ha : isA a) (hx : isA x) (hm : mayB a b = true) : Evt (fun k => whirligigref01_Has.f k a b x) (inB a b x) := by
  obtain ⟨h0, h1, h2⟩ := (mayB_iff a b).1 hm
  have := refHasLoop_ev b.toNat a b x 0 ha hx (by omega) h0 h1 (by omega) (by
    have : un 0 = 4294967296 := rfl
    rw [this]
    have := ha.1; have := ha.2; have := hx.1; have := hx.2
    omega)
  unfold inB
  rw [show decide (x - x % un b = a) = decide (a / un b = x / un b) from decide_eq_decide.2 (div_in a b x h2).symm]
  exact this
end Go.Proofs.Ytnihacajjpcjeaa.P
namespace Go.Proofs.Ytnihacajjpcjeaa
open Go.RowKit Go.Proofs.Ytnihacajjpcjeaa.P Go.Proofs.YtnihacajjpcjeaaW.PrintWords Go.Proofs.YtnihacajjpcjeaaW.PrintLast Go.Proofs.YtnihacajjpcjeaaW.PrintMore
set_option linter.unusedVariables false
set_option linter.unusedSimpArgs false

theorem bit_adr (a : Int) (i j : Nat) (h : i < j) (hj : j ≤ 32) : bitB (adrA a j) i = bitB a i := by
  unfold bitB adrA
  obtain ⟨q, hq⟩ : ∃ q : Int, q = 2 ^ (32 - j) := ⟨_, rfl⟩
  obtain ⟨c, hc⟩ : ∃ c : Int, c = 2 ^ (j - 1 - i) := ⟨_, rfl⟩
  have hq0 : 0 < q := by rw [hq]; exact Int.pow_pos (by decide)
  have e : (2 : Int) ^ (31 - i) = q * c := by rw [hq, hc, ← Int.pow_add]; congr 1; omega
  have e2 : a - a % q = q * (a / q) := by have := Int.emod_add_mul_ediv a q; omega
  rw [← hq, e, e2, Int.mul_ediv_mul_of_pos _ _ hq0, ← Int.ediv_ediv_of_nonneg (Int.le_of_lt hq0)]
theorem wayA_adr (a : Int) (j : Nat) (hj : j ≤ 32) : wayA (adrA a j) j = wayA a j := by
  have : ∀ i, i ≤ j → wayA (adrA a j) i = wayA a i := by
    intro i
    induction i with
    | zero => intro _; rfl
    | succ i ih => intro h; rw [wayA, wayA, ih (by omega), bit_adr a i j (by omega) hj]
  exact this j (Nat.le_refl _)
section
variable {V : Type} {m : Way → Option V} {a : Int}
theorem abv_mem : ∀ {i : Nat} {x : S34}, x ∈ abvT m a i → ∃ j, j < i ∧ x = ⟨adrA a j, (j : Int)⟩ := by
  intro i
  induction i with
  | zero => intro x h; simp [abvT] at h
  | succ i ih =>
    intro x h
    cases hm : m (wayA a i) with
    | none => rw [abv_none hm] at h; obtain ⟨j, h1, h2⟩ := ih h; exact ⟨j, by omega, h2⟩
    | some v =>
      rw [abv_some hm] at h
      rcases List.mem_append.1 h with h | h
      · obtain ⟨j, h1, h2⟩ := ih h; exact ⟨j, by omega, h2⟩
      · exact ⟨i, by omega, by simpa using h⟩
theorem abv_sorted : ∀ i : Nat, (abvT m a i).Pairwise fun x y => x.f1 < y.f1 := by
  intro i
  induction i with
  | zero => exact List.Pairwise.nil
  | succ i ih =>
    cases hm : m (wayA a i) with
    | none => rw [abv_none hm]; exact ih
    | some v =>
      rw [abv_some hm]
      refine List.pairwise_append.2 ⟨ih, List.pairwise_singleton _ _, fun x hx y hy => ?_⟩
      obtain ⟨j, h1, h2⟩ := abv_mem hx
      rw [List.mem_singleton.1 hy, h2]
      show (j : Int) < (i : Int)
      omega
end
end Go.Proofs.Ytnihacajjpcjeaa

end
section
namespace Go.Proofs.Ytnihacajjpcjeaa
open Go.RowKit Go.Proofs.Ytnihacajjpcjeaa.P Go.Proofs.YtnihacajjpcjeaaW.PrintWords Go.Proofs.YtnihacajjpcjeaaW.PrintLast Go.Proofs.YtnihacajjpcjeaaW.PrintMore
set_option linter.unusedVariables false
set_option linter.unusedSimpArgs false

/-- does a prefix contain another one? -/
def conB (p q : S34) : Bool := mayB p.f0 p.f1 && (mayB q.f0 q.f1 && (decide (p.f1 ≤ q.f1) && inB p.f0 p.f1 q.f0))
theorem refCon_ev (a b c d : Int) (ha : isA a) (hc : isA c) : Evt (fun k => whirligigref01_Contains.f k a b c d) (conB ⟨a, b⟩ ⟨c, d⟩) := by
  unfold whirligigref01_Contains.f conB
  refine Evt.bind (refMay_ev a b ha) ?_
  cases hm : mayB a b with
  | false => exact Evt.of fun k => rfl
  | true =>
    refine Evt.ite_pos rfl (Evt.bind (refMay_ev c d hc) ?_)
    simp only [Bool.true_and]
    cases hn : mayB c d with
    | false => exact Evt.of fun k => rfl
    | true =>
      refine Evt.ite_pos rfl ?_
      by_cases h : b ≤ d
      · refine Evt.ite_pos h (Evt.bind (refHas_ev a b c ha hc hm) ?_)
        simp only [h, decide_true, Bool.true_and]
        exact Evt.pure _
      · refine Evt.ite_neg h ?_
        simp only [h, decide_false, Bool.false_and, Bool.and_false]
        exact Evt.pure _
theorem drop_at {α : Type} {l r : List α} {x : α} {i : Nat} (h : l.drop i = x :: r) : i < l.length ∧ l[i]? = some x ∧ l.drop (i + 1) = r := by
  have hlt : i < l.length := by
    rcases Nat.lt_or_ge i l.length with h1 | h1
    · exact h1
    · rw [List.drop_eq_nil_of_le h1] at h; cases h
  have e := List.drop_eq_getElem_cons hlt
  rw [e] at h
  injection h with h1 h2
  exact ⟨hlt, by rw [List.getElem?_eq_getElem hlt, h1], h2⟩
theorem rd43 {l : List S43} {i : Nat} {x : S43} (h : l[i]? = some x) : rd_T43 l (i : Int) = x := by
  unfold rd_T43; rw [Int.toNat_natCast, List.getD_eq_getElem?_getD, h]; rfl
def belL (l : List S43) (p : S34) : List S34 := (l.filter fun x => conB p x.f0).map (·.f0)
def abvL (l : List S43) (p : S34) : List S34 := (l.filter fun x => conB x.f0 p).map (·.f0)
theorem below_loop (l : List S43) (a b : Int) (ha : isA a) (hok : ∀ x ∈ l, isA x.f0.f0) (hl : l.length ≤ 1000000) : ∀ (r : List S43) (i : Nat) (acc : List S34), l.drop i = r → i ≤ l.length → acc.length ≤ i → Evt (fun k => whirligigref06_Below.l0 k l acc i a b) (acc ++ belL r ⟨a, b⟩) := by
  intro r
  induction r with
  | nil =>
    intro i acc h hi hacc
    have : l.length ≤ i := List.drop_eq_nil_iff.1 h
    refine Evt.step ?_
    simp only [whirligigref06_Below.l0]
    refine Evt.ite_neg (by omega) ?_
    simp only [belL, List.filter_nil, List.map_nil, List.append_nil]
    exact Evt.pure _
  | cons x r ih =>
    intro i acc h hi hacc
    obtain ⟨hlt, hx, hr⟩ := drop_at h
    have hxa := hok x (List.mem_of_getElem? hx)
    have hw : wrap64 ((i : Int) + 1) = ((i + 1 : Nat) : Int) := by rw [wrap64_in _ (by omega) (by omega)]; omega
    refine Evt.step ?_
    simp only [whirligigref06_Below.l0]
    refine Evt.ite_pos (by omega) (Evt.ite_pos (by omega) ?_)
    rw [rd43 hx, hw]
    refine Evt.bind (refCon_ev a b x.f0.f0 x.f0.f1 ha hxa) ?_
    cases hc : conB ⟨a, b⟩ ⟨x.f0.f0, x.f0.f1⟩ with
    | true =>
      have hc' : conB ⟨a, b⟩ x.f0 = true := hc
      refine Evt.ite_pos rfl (Evt.ite_pos (by omega) ?_)
      have := ih (i + 1) (acc ++ [⟨x.f0.f0, x.f0.f1⟩]) hr (by omega) (by simp; omega)
      have e : acc ++ belL (x :: r) ⟨a, b⟩ = acc ++ [⟨x.f0.f0, x.f0.f1⟩] ++ belL r ⟨a, b⟩ := by
        simp only [belL, List.filter_cons, hc', if_true, List.map_cons, List.append_assoc, List.singleton_append]
      rw [e]; exact this
    | false =>
      have hc' : conB ⟨a, b⟩ x.f0 = false := hc
      refine Evt.ite_neg (by simp) ?_
      have := ih (i + 1) acc hr (by omega) (by omega)
      have e : acc ++ belL (x :: r) ⟨a, b⟩ = acc ++ belL r ⟨a, b⟩ := by
        simp [belL, List.filter_cons, hc']
      rw [e]; exact this
theorem below_ev (l : List S43) (a b : Int) (ha : isA a) (hok : ∀ x ∈ l, isA x.f0.f0) (hl : l.length ≤ 1000000) : Evt (fun k => whirligigref06_Below.f k l a b) (belL l ⟨a, b⟩) := by
  have := below_loop l a b ha hok hl l 0 [] rfl (by omega) (by simp)
  rw [List.nil_append] at this
  exact this
theorem above_loop (l : List S43) (a b : Int) (ha : isA a) (hok : ∀ x ∈ l, isA x.f0.f0) (hl : l.length ≤ 1000000) : ∀ (r : List S43) (i : Nat) (acc : List S34), l.drop i = r → i ≤ l.length → acc.length ≤ i → Evt (fun k => whirligigref06_Above.l0 k l acc i a b) (acc ++ abvL r ⟨a, b⟩) := by
  intro r
  induction r with
  | nil =>
    intro i acc h hi hacc
    have : l.length ≤ i := List.drop_eq_nil_iff.1 h
    refine Evt.step ?_
    simp only [whirligigref06_Above.l0]
    refine Evt.ite_neg (by omega) ?_
    simp only [abvL, List.filter_nil, List.map_nil, List.append_nil]
    exact Evt.pure _
  | cons x r ih =>
    intro i acc h hi hacc
    obtain ⟨hlt, hx, hr⟩ := drop_at h
    have hxa := hok x (List.mem_of_getElem? hx)
    have hw : wrap64 ((i : Int) + 1) = ((i + 1 : Nat) : Int) := by rw [wrap64_in _ (by omega) (by omega)]; omega
    refine Evt.step ?_
    simp only [whirligigref06_Above.l0]
    refine Evt.ite_pos (by omega) (Evt.ite_pos (by omega) ?_)
    rw [rd43 hx, hw]
    refine Evt.bind (refCon_ev x.f0.f0 x.f0.f1 a b hxa ha) ?_
    cases hc : conB ⟨x.f0.f0, x.f0.f1⟩ ⟨a, b⟩ with
    | true =>
      have hc' : conB x.f0 ⟨a, b⟩ = true := hc
      refine Evt.ite_pos rfl (Evt.ite_pos (by omega) ?_)
      have := ih (i + 1) (acc ++ [⟨x.f0.f0, x.f0.f1⟩]) hr (by omega) (by simp; omega)
      have e : acc ++ abvL (x :: r) ⟨a, b⟩ = acc ++ [⟨x.f0.f0, x.f0.f1⟩] ++ abvL r ⟨a, b⟩ := by
        simp only [abvL, List.filter_cons, hc', if_true, List.map_cons, List.append_assoc, List.singleton_append]
      rw [e]; exact this
    | false =>
      have hc' : conB x.f0 ⟨a, b⟩ = false := hc
      refine Evt.ite_neg (by simp) ?_
      have := ih (i + 1) acc hr (by omega) (by omega)
      have e : acc ++ abvL (x :: r) ⟨a, b⟩ = acc ++ abvL r ⟨a, b⟩ := by
        simp [abvL, List.filter_cons, hc']
      rw [e]; exact this
theorem aboveL_ev (l : List S43) (a b : Int) (ha : isA a) (hok : ∀ x ∈ l, isA x.f0.f0) (hl : l.length ≤ 1000000) : Evt (fun k => whirligigref06_Above.f k l a b) (abvL l ⟨a, b⟩) := by
  have := above_loop l a b ha hok hl l 0 [] rfl (by omega) (by simp)
  rw [List.nil_append] at this
  exact this
/-- the place of the longest one among the first i -/
def lngP (l : List S43) (A : Int) (i : Nat) (best : Int) : Prop :=
  (best = -1 ∧ ∀ y ∈ l.take i, inB y.f0.f0 y.f0.f1 A = false) ∨ ∃ (n : Nat) (x : S43), best = n ∧ l[n]? = some x ∧ inB x.f0.f0 x.f0.f1 A = true ∧ ∀ y ∈ l.take i, inB y.f0.f0 y.f0.f1 A = true → y.f0.f1 ≤ x.f0.f1
theorem take_one {α : Type} {l : List α} {i : Nat} {x y : α} (h : l[i]? = some x) (hy : y ∈ l.take (i + 1)) : y ∈ l.take i ∨ y = x := by
  rw [List.take_add_one, h] at hy
  simpa using hy
theorem longest_loop (l : List S43) (A : Int) (hA : isA A) (hok : ∀ x ∈ l, okP x.f0) (hl : l.length ≤ 1000000) : ∀ (d : Nat) (i : Nat) (best : Int), l.length - i = d → i ≤ l.length → lngP l A i best → ∃ r, Evt (fun k => whirligigref06_Longest.l0 k l A best i) r ∧ lngP l A l.length r := by
  intro d
  induction d with
  | zero =>
    intro i best hd hi hP
    obtain rfl : i = l.length := by omega
    refine ⟨best, Evt.step ?_, hP⟩
    simp only [whirligigref06_Longest.l0]
    exact Evt.ite_neg (by omega) (Evt.pure _)
  | succ d ih =>
    intro i best hd hi hP
    have hlt : i < l.length := by omega
    obtain ⟨x, hx⟩ : ∃ x, l[i]? = some x := ⟨_, List.getElem?_eq_getElem (h := hlt)⟩
    have hxo := hok x (List.mem_of_getElem? hx)
    have hw : wrap64 ((i : Int) + 1) = ((i + 1 : Nat) : Int) := by rw [wrap64_in _ (by omega) (by omega)]; omega
    have hh := refHas_ev x.f0.f0 x.f0.f1 A hxo.1 hA hxo.2
    have key : ∀ best', lngP l A (i + 1) best' → ∀ g : Nat → Option Int, (∀ k, g (k + 1) = whirligigref06_Longest.l0 k l A best' ((i + 1 : Nat) : Int)) → ∃ r, Evt (fun k => g (k + 1)) r ∧ lngP l A l.length r := by
      intro best' hP' g hg
      obtain ⟨r, h1, h2⟩ := ih (i + 1) best' (by omega) (by omega) hP'
      exact ⟨r, by simp only [hg]; exact h1, h2⟩
    cases hc : inB x.f0.f0 x.f0.f1 A with
    | false =>
      rw [hc] at hh
      have hP' : lngP l A (i + 1) best := by
        rcases hP with ⟨h1, h2⟩ | ⟨n, z, h1, h2, h3, h4⟩
        · refine .inl ⟨h1, fun y hy => ?_⟩
          rcases take_one hx hy with h | rfl
          · exact h2 y h
          · exact hc
        · refine .inr ⟨n, z, h1, h2, h3, fun y hy hi' => ?_⟩
          rcases take_one hx hy with h | rfl
          · exact h4 y h hi'
          · rw [hc] at hi'; cases hi'
      obtain ⟨r, h1, h2⟩ := ih (i + 1) best (by omega) (by omega) hP'
      refine ⟨r, Evt.step ?_, h2⟩
      simp only [whirligigref06_Longest.l0]
      refine Evt.ite_pos (by omega) (Evt.ite_pos (by omega) ?_)
      rw [rd43 hx, hw]
      exact Evt.bind hh (Evt.ite_neg (by simp) h1)
    | true =>
      rw [hc] at hh
      rcases hP with ⟨h1, h2⟩ | ⟨n, z, h1, h2, h3, h4⟩
      · have hP' : lngP l A (i + 1) (i : Int) := by
          refine .inr ⟨i, x, rfl, hx, hc, fun y hy hi' => ?_⟩
          rcases take_one hx hy with h | rfl
          · rw [h2 y h] at hi'; cases hi'
          · exact Int.le_refl _
        obtain ⟨r, g1, g2⟩ := ih (i + 1) i (by omega) (by omega) hP'
        refine ⟨r, Evt.step ?_, g2⟩
        simp only [whirligigref06_Longest.l0]
        refine Evt.ite_pos (by omega) (Evt.ite_pos (by omega) ?_)
        rw [rd43 hx, hw]
        exact Evt.bind hh (Evt.ite_pos rfl (Evt.ite_pos (by omega) g1))
      · have hn : n < l.length := (List.getElem?_eq_some_iff.1 h2).1
        by_cases hgt : x.f0.f1 > z.f0.f1
        · have hP' : lngP l A (i + 1) (i : Int) := by
            refine .inr ⟨i, x, rfl, hx, hc, fun y hy hi' => ?_⟩
            rcases take_one hx hy with h | rfl
            · have := h4 y h hi'; omega
            · exact Int.le_refl _
          obtain ⟨r, g1, g2⟩ := ih (i + 1) i (by omega) (by omega) hP'
          refine ⟨r, Evt.step ?_, g2⟩
          simp only [whirligigref06_Longest.l0]
          refine Evt.ite_pos (by omega) (Evt.ite_pos (by omega) ?_)
          subst h1
          rw [rd43 hx, rd43 h2, hw]
          exact Evt.bind hh (Evt.ite_pos rfl (Evt.ite_neg (by omega) (Evt.ite_pos (by omega) (Evt.ite_pos (by omega) (Evt.ite_pos hgt g1)))))
        · have hP' : lngP l A (i + 1) best := by
            refine .inr ⟨n, z, h1, h2, h3, fun y hy hi' => ?_⟩
            rcases take_one hx hy with h | rfl
            · exact h4 y h hi'
            · omega
          obtain ⟨r, g1, g2⟩ := ih (i + 1) best (by omega) (by omega) hP'
          refine ⟨r, Evt.step ?_, g2⟩
          simp only [whirligigref06_Longest.l0]
          refine Evt.ite_pos (by omega) (Evt.ite_pos (by omega) ?_)
          subst h1
          rw [rd43 hx, rd43 h2, hw]
          exact Evt.bind hh (Evt.ite_pos rfl (Evt.ite_neg (by omega) (Evt.ite_pos (by omega) (Evt.ite_pos (by omega) (Evt.ite_neg hgt g1)))))
theorem longest_ev (l : List S43) (A : Int) (hA : isA A) (hok : ∀ x ∈ l, okP x.f0) (hl : l.length ≤ 1000000) : ∃ r, Evt (fun k => whirligigref06_Longest.f k l A) r ∧ lngP l A l.length r :=
  longest_loop l A hA hok hl l.length 0 (-1) (by omega) (by omega) (.inl ⟨rfl, fun y hy => by simp at hy⟩)
/-- an address's prefix -/
theorem inB_way {x : S34} {A : Int} (hx : okP x) (hA : isA A) : inB x.f0 x.f1 A = true ↔ wayP x = wayA A x.f1.toNat := by
  obtain ⟨b0, b1⟩ := okP_bits hx
  have e : inB x.f0 x.f1 A = decide (adrA A x.f1.toNat = x.f0) := by
    unfold inB adrA un
    rw [show (32 - x.f1).toNat = 32 - x.f1.toNat by omega]
  rw [e, decide_eq_true_eq]
  constructor
  · intro h
    unfold wayP
    rw [← h, wayA_adr _ _ (by omega)]
  · intro h
    rw [← adrA_way x.f1.toNat (by omega) hx.1.1 (by have := hx.1.2; omega) hA.1 (by have := hA.2; omega) h, okP_adr hx]
theorem conB_way {x y : S34} (hx : okP x) (hy : okP y) : conB x y = true ↔ ∃ ρ, wayP y = wayP x ++ ρ := by
  obtain ⟨b0, b1⟩ := okP_bits hx
  obtain ⟨d0, d1⟩ := okP_bits hy
  unfold conB
  rw [hx.2, hy.2, Bool.true_and, Bool.true_and, Bool.and_eq_true, decide_eq_true_eq, inB_way hx hy.1]
  constructor
  · rintro ⟨h1, h2⟩
    rw [h2]
    exact wayA_split y.f0 (by omega)
  · rintro ⟨ρ, h⟩
    have hl := congrArg List.length h
    unfold wayP at hl
    rw [List.length_append, wayA_len, wayA_len] at hl
    refine ⟨by omega, ?_⟩
    have ht := congrArg (List.take x.f1.toNat) h
    rw [List.take_left' (by unfold wayP; rw [wayA_len])] at ht
    unfold wayP at ht ⊢
    rw [wayA_take _ _ _ (by omega)] at ht
    exact ht.symm
theorem rel_at {m : Way → Option Int} {l : List S43} (hR : Rel m l) {π : Way} {v : Int} (h : m π = some v) : (⟨prefW π, v⟩ : S43) ∈ l ∧ okP (prefW π) ∧ wayP (prefW π) = π := by
  obtain ⟨y, hy, hw⟩ := hR.all π v h
  have ho := hR.ok y hy
  have e := okP_pref ho.1
  rw [hw] at e ho
  rw [h] at ho
  have e2 : y.f1 = v := (Option.some.inj ho.2).symm
  have : y = ⟨prefW π, v⟩ := by cases y; simp only at e e2; rw [e, e2]
  rw [← this, e]
  exact ⟨hy, ho.1, hw⟩
theorem below_same {m : Way → Option Int} {l : List S43} (hR : Rel m l) {p : S34} (hp : okP p) : (enumW m (33 - (wayP p).length) (wayP p)).map (·.f0) = belL l p := by
  unfold belL
  congr 1
  have hle : (wayP p).length ≤ 32 := by unfold wayP; rw [wayA_len]; have := okP_bits hp; omega
  refine sorted_eq _ _ (enum_sorted m _ _ (by omega)) (hR.srt.sublist List.filter_sublist) (fun x => ?_)
  rw [enum_mem, List.mem_filter]
  constructor
  · rintro ⟨ρ, h1, h2, h3⟩
    obtain ⟨k1, k2, k3⟩ := rel_at hR h2
    have : x = ⟨prefW (wayP p ++ ρ), x.f1⟩ := by cases x; simp only at h3; rw [h3]
    refine ⟨by rw [this]; exact k1, ?_⟩
    rw [h3]
    exact (conB_way hp k2).2 ⟨ρ, k3⟩
  · rintro ⟨h1, h2⟩
    have ho := hR.ok x h1
    obtain ⟨ρ, h3⟩ := (conB_way hp ho.1).1 h2
    have hl := congrArg List.length h3
    rw [List.length_append] at hl
    have hx : (wayP x.f0).length ≤ 32 := by unfold wayP; rw [wayA_len]; have := okP_bits ho.1; omega
    refine ⟨ρ, by omega, by rw [← h3]; exact ho.2, by rw [← h3]; exact (okP_pref ho.1).symm⟩
theorem sorted_gen {α : Type} {R : α → α → Prop} (irr : ∀ x, ¬ R x x) (tr : ∀ x y z, R x y → R y z → R x z) : ∀ (a b : List α), a.Pairwise R → b.Pairwise R → (∀ x, x ∈ a ↔ x ∈ b) → a = b := by
  intro a
  induction a with
  | nil =>
    intro b _ _ h
    cases b with
    | nil => rfl
    | cons y b => exact absurd ((h y).2 List.mem_cons_self) (by simp)
  | cons x a ih =>
    intro b ha hb h
    cases b with
    | nil => exact absurd ((h x).1 List.mem_cons_self) (by simp)
    | cons y b =>
      obtain ⟨a1, a2⟩ := List.pairwise_cons.1 ha
      obtain ⟨b1, b2⟩ := List.pairwise_cons.1 hb
      have hxy : x = y := by
        rcases List.mem_cons.1 ((h x).1 List.mem_cons_self) with e | hx
        · exact e
        · rcases List.mem_cons.1 ((h y).2 List.mem_cons_self) with e | hy
          · exact e.symm
          · exact absurd (tr _ _ _ (b1 x hx) (a1 y hy)) (irr _)
      subst hxy
      congr 1
      refine ih b a2 b2 (fun z => ⟨fun hz => ?_, fun hz => ?_⟩)
      · rcases List.mem_cons.1 ((h z).1 (List.mem_cons_of_mem _ hz)) with e | hz2
        · subst e; exact absurd (a1 z hz) (irr _)
        · exact hz2
      · rcases List.mem_cons.1 ((h z).2 (List.mem_cons_of_mem _ hz)) with e | hz2
        · subst e; exact absurd (b1 z hz) (irr _)
        · exact hz2
theorem abv_mem2 {V : Type} (m : Way → Option V) (a : Int) : ∀ (i : Nat) (x : S34), x ∈ abvT m a i ↔ ∃ j, j < i ∧ (m (wayA a j)).isSome = true ∧ x = ⟨adrA a j, (j : Int)⟩ := by
  intro i
  induction i with
  | zero => intro x; simp [abvT]
  | succ i ih =>
    intro x
    cases hm : m (wayA a i) with
    | none =>
      rw [abv_none hm, ih]
      constructor
      · rintro ⟨j, h1, h2, h3⟩; exact ⟨j, by omega, h2, h3⟩
      · rintro ⟨j, h1, h2, h3⟩
        refine ⟨j, ?_, h2, h3⟩
        rcases Nat.lt_or_ge j i with h | h
        · exact h
        · obtain rfl : j = i := by omega
          rw [hm] at h2; cases h2
    | some v =>
      rw [abv_some hm, List.mem_append, ih, List.mem_singleton]
      constructor
      · rintro (⟨j, h1, h2, h3⟩ | h)
        · exact ⟨j, by omega, h2, h3⟩
        · exact ⟨i, by omega, by rw [hm]; rfl, h⟩
      · rintro ⟨j, h1, h2, h3⟩
        rcases Nat.lt_or_ge j i with h | h
        · exact .inl ⟨j, h, h2, h3⟩
        · obtain rfl : j = i := by omega
          exact .inr h3
theorem adrA_mono (a : Int) : ∀ (d i : Nat), i + d ≤ 32 → adrA a i ≤ adrA a (i + d) := by
  intro d
  induction d with
  | zero => intro i _; exact Int.le_refl _
  | succ d ih =>
    intro i h
    have h1 := ih i (by omega)
    have h2 := adrA_step a (i + d) (by omega)
    have hp : (0 : Int) < 2 ^ (31 - (i + d)) := Int.pow_pos (by decide)
    have h3 : (0 : Int) ≤ (bitB a (i + d)).toNat * 2 ^ (31 - (i + d)) := Int.mul_nonneg (by omega) (Int.le_of_lt hp)
    rw [← Nat.add_assoc]
    omega
theorem pref_adr (a : Int) (ha : isA a) (j : Nat) (hj : j ≤ 32) : prefW (wayA a j) = ⟨adrA a j, (j : Int)⟩ := by
  unfold prefW
  rw [adrW_way a ha.1 (by have := ha.2; omega) j hj, wayA_len]
theorem above_same {m : Way → Option Int} {l : List S43} (hR : Rel m l) {p : S34} (hp : okP p) : abvT m p.f0 (p.f1.toNat + 1) = abvL l p := by
  obtain ⟨b0, b1⟩ := okP_bits hp
  have hsrt : (abvT m p.f0 (p.f1.toNat + 1)).Pairwise befP := by
    refine (abv_sorted (m := m) (a := p.f0) (p.f1.toNat + 1)).imp_of_mem ?_
    intro x y hx hy h
    obtain ⟨i, i1, _, i3⟩ := (abv_mem2 m p.f0 _ x).1 hx
    obtain ⟨j, j1, _, j3⟩ := (abv_mem2 m p.f0 _ y).1 hy
    subst i3 j3
    simp only at h
    have := adrA_mono p.f0 (j - i) i (by omega)
    rw [show i + (j - i) = j by omega] at this
    unfold befP
    simp only
    omega
  refine sorted_gen (fun x h => befP_irr h) (fun x y z h k => befP_trans h k) _ _ hsrt ?_ (fun x => ?_)
  · unfold abvL
    rw [List.pairwise_map]
    exact hR.srt.sublist List.filter_sublist
  · rw [abv_mem2]
    unfold abvL
    rw [List.mem_map]
    constructor
    · rintro ⟨j, h1, h2, h3⟩
      obtain ⟨v, hv⟩ := Option.isSome_iff_exists.1 h2
      obtain ⟨k1, k2, k3⟩ := rel_at hR hv
      rw [pref_adr p.f0 hp.1 j (by omega)] at k1 k2 k3
      refine ⟨_, List.mem_filter.2 ⟨k1, ?_⟩, h3.symm⟩
      refine (conB_way k2 hp).2 ?_
      rw [k3]
      exact wayA_split p.f0 (by omega)
    · rintro ⟨y, h1, rfl⟩
      obtain ⟨h1, h2⟩ := List.mem_filter.1 h1
      have ho := hR.ok y h1
      obtain ⟨ρ, h3⟩ := (conB_way ho.1 hp).1 h2
      obtain ⟨d0, d1⟩ := okP_bits ho.1
      have hl := congrArg List.length h3
      unfold wayP at hl
      rw [List.length_append, wayA_len, wayA_len] at hl
      have ht := congrArg (List.take y.f0.f1.toNat) h3
      rw [List.take_left' (by unfold wayP; rw [wayA_len])] at ht
      have ht2 : wayA p.f0 y.f0.f1.toNat = wayP y.f0 := by
        rw [← ht]; unfold wayP; rw [wayA_take _ _ _ (by omega)]
      refine ⟨y.f0.f1.toNat, by omega, by rw [ht2, ho.2]; rfl, ?_⟩
      rw [← pref_adr p.f0 hp.1 _ (by omega), ht2, okP_pref ho.1]
theorem above_none {l : List S43} {p : S34} (h : mayB p.f0 p.f1 = false) : abvL l p = [] := by
  have : ∀ x : S43, conB x.f0 p = false := fun x => by unfold conB; rw [h]; simp
  simp [abvL, this]
theorem below_none {l : List S43} {p : S34} (h : mayB p.f0 p.f1 = false) : belL l p = [] := by
  have : ∀ x : S43, conB p x.f0 = false := fun x => by unfold conB; rw [h]; simp
  simp [belL, this]
theorem bst_spec {V : Type} (m : Way → Option V) (a : Int) : ∀ i : Nat, (bstT m a i = none ∧ ∀ j, j < i → m (wayA a j) = none) ∨ ∃ j v, bstT m a i = some (j, v) ∧ j < i ∧ m (wayA a j) = some v ∧ ∀ j', j < j' → j' < i → m (wayA a j') = none := by
  intro i
  induction i with
  | zero => exact .inl ⟨rfl, fun j h => absurd h (by omega)⟩
  | succ i ih =>
    cases hm : m (wayA a i) with
    | some v => exact .inr ⟨i, v, bst_some hm, by omega, hm, fun j' h1 h2 => absurd h1 (by omega)⟩
    | none =>
      rw [bst_none hm]
      rcases ih with ⟨h1, h2⟩ | ⟨j, v, h1, h2, h3, h4⟩
      · refine .inl ⟨h1, fun j hj => ?_⟩
        rcases Nat.lt_or_ge j i with h | h
        · exact h2 j h
        · obtain rfl : j = i := by omega
          exact hm
      · refine .inr ⟨j, v, h1, by omega, h3, fun j' k1 k2 => ?_⟩
        rcases Nat.lt_or_ge j' i with h | h
        · exact h4 j' k1 h
        · obtain rfl : j' = i := by omega
          exact hm
/-- the trie's longest is the plain list's -/
theorem longest_same {m : Way → Option Int} {l : List S43} (hR : Rel m l) {A : Int} (hA : isA A) {r : Int} (hP : lngP l A l.length r) :
    (bstT m A 33 = none ∧ r = -1) ∨ ∃ (n : Nat) (x : S43), r = n ∧ l[n]? = some x ∧ (bstT m A 33).isSome = true ∧ bA A (bstT m A 33) = x.f0.f0 ∧ bB (bstT m A 33) = x.f0.f1 ∧ bV (bstT m A 33) = x.f1 := by
  have hin : ∀ y ∈ l, inB y.f0.f0 y.f0.f1 A = true → m (wayA A y.f0.f1.toNat) = some y.f1 ∧ y.f0.f1.toNat < 33 ∧ y.f0 = ⟨adrA A y.f0.f1.toNat, (y.f0.f1.toNat : Int)⟩ := by
    intro y hy h
    have ho := hR.ok y hy
    have hb := okP_bits ho.1
    have hw := (inB_way ho.1 hA).1 h
    refine ⟨by rw [← hw]; exact ho.2, by omega, ?_⟩
    rw [← pref_adr A hA _ (by omega), ← hw, okP_pref ho.1]
  rcases bst_spec m A 33 with ⟨h1, h2⟩ | ⟨j, v, h1, h2, h3, h4⟩
  · refine .inl ⟨h1, ?_⟩
    rcases hP with ⟨k1, _⟩ | ⟨n, x, k1, k2, k3, k4⟩
    · exact k1
    · obtain ⟨g1, g2, _⟩ := hin x (List.mem_of_getElem? k2) k3
      rw [h2 _ g2] at g1; cases g1
  · obtain ⟨g1, g2, g3⟩ := rel_at hR h3
    have hpre := pref_adr A hA j (by omega)
    have hj : inB (prefW (wayA A j)).f0 (prefW (wayA A j)).f1 A = true := by
      rw [inB_way g2 hA, g3, hpre]; simp
    rcases hP with ⟨k1, k2⟩ | ⟨n, x, k1, k2, k3, k4⟩
    · have := k2 ⟨prefW (wayA A j), v⟩ (by rw [List.take_length]; exact g1)
      simp only at this
      rw [hj] at this; cases this
    · obtain ⟨q1, q2, q3⟩ := hin x (List.mem_of_getElem? k2) k3
      have hle := k4 ⟨prefW (wayA A j), v⟩ (by rw [List.take_length]; exact g1) hj
      simp only [hpre] at hle
      have hxj : x.f0.f1.toNat = j := by
        rcases Nat.lt_or_ge j x.f0.f1.toNat with h | h
        · rw [h4 _ h q2] at q1; cases q1
        · omega
      rw [hxj] at q1 q3
      rw [h3] at q1
      have e1 : x.f0.f0 = adrA A j := congrArg S34.f0 q3
      have e2 : x.f0.f1 = (j : Int) := congrArg S34.f1 q3
      refine .inr ⟨n, x, k1, k2, by rw [h1]; rfl, by rw [h1, e1]; rfl, by rw [h1, e2]; rfl, by rw [h1]; exact Option.some.inj q1⟩
end Go.Proofs.Ytnihacajjpcjeaa

end
section
namespace Go.Proofs.Ytnihacajjpcjeaa
open Go.RowKit Go.Proofs.Ytnihacajjpcjeaa.P Go.Proofs.YtnihacajjpcjeaaW.PrintWords Go.Proofs.YtnihacajjpcjeaaW.PrintLast Go.Proofs.YtnihacajjpcjeaaW.PrintMore
set_option linter.unusedVariables false
set_option linter.unusedSimpArgs false

/-- is x the i-th of a list? -/
def isAt (l : List S43) (i : Nat) (x : S43) : Bool := match l[i]? with | some y => (y.f0.f0 == x.f0.f0 && y.f0.f1 == x.f0.f1) && y.f1 == x.f1 | none => false
def samS (l : List S43) (s : Nat × Bool) (x : S43) : (Nat × Bool) × Bool := ((s.1 + 1, s.2 && isAt l s.1 x), true)
def InvS (co ci cl B : Nat) (A : Option Addr) (c : Nat) (l : List S43) (w : World) (own : Nat → Prop) (s : Nat × Bool) : Prop :=
  w.heap[co]? = some (.cells #[.bool s.2] 4 (0, 0)) ∧ w.heap[ci]? = some (.cells #[.int .i64 s.1] 3 (0, 0)) ∧ w.heap[cl]? = some (.cells #[.slice A l.length c] 24 (0, 0)) ∧
  Kd.R k43 43 w B (fun k => some k = (Value.slice A l.length c).ownBlock) (.slice A l.length c) l ∧ (co ≠ ci ∧ co ≠ cl ∧ ci ≠ cl) ∧ (∀ k, (Value.slice A l.length c).ownBlock = some k → k ≠ co ∧ k ≠ ci) ∧ ∀ b, own b ↔ (b = co ∨ b = ci)
theorem isAt_self {l : List S43} {i : Nat} {x : S43} (h : l[i]? = some x) : isAt l i x = true := by unfold isAt; rw [h]; simp
theorem run_same (l : List S43) : ∀ (r : List S43) (i : Nat), l.drop i = r → runS (samS l) (i, true) r = ((i + r.length, true), true) := by
  intro r
  induction r with
  | nil => intro i _; rfl
  | cons x r ih =>
    intro i h
    obtain ⟨h1, h2, h3⟩ := drop_at h
    have e : samS l (i, true) x = ((i + 1, true), true) := by unfold samS; rw [isAt_self h2]; rfl
    simp only [runS]
    rw [e]
    simp only [if_true]
    rw [ih (i + 1) h3]
    simp; omega
set_option maxHeartbeats 8000000 in
set_option maxRecDepth 100000 in
theorem samS_calls (co ci cl B : Nat) (A : Option Addr) (c : Nat) (l : List S43) (hlen : l.length ≤ 1000) (w : World) (own : Nat → Prop) (s : Nat × Bool) (a b v : Int) (hc : s.1 < 1000) (hI : InvS co ci cl B A c l w own s) :
    Calls Try.prog 52 #[.agg #[.int .u32 a, .int .i64 b], .int .i64 v, .pointer (some ⟨co, 0, none⟩), .pointer (some ⟨ci, 0, none⟩), .pointer (some ⟨cl, 0, none⟩)] w fun e w' => ∃ own' : Nat → Prop, e = .returned (.bool true) ∧ InvS co ci cl B A c l w' own' (s.1 + 1, s.2 && isAt l s.1 ⟨⟨a, b⟩, v⟩) ∧ (∀ b, own' b → own b ∨ w.heap.size ≤ b) ∧ Kb own w w' := by
  obtain ⟨i, ok⟩ := s
  obtain ⟨h1, h2, h3, h4, ⟨n1, n2, n3⟩, h5, h6⟩ := hI
  simp only at h1 h2 hc ⊢
  obtain ⟨W0, hW0⟩ : ∃ W0, W0 = w.alloc (.cells #[.int .u32 a, .int .i64 b] 34) := ⟨_, rfl⟩
  obtain ⟨W, hW⟩ : ∃ W, W = W0 := ⟨_, rfl⟩
  have hB : Below w.heap.size w W := by rw [hW, hW0]; exact Below.alloc (Below.refl _ w) (Nat.le_refl _) _
  have HB := mkHid hB
  have q0 : W.cell? ⟨w.heap.size, 0, none⟩ = some (.int .u32 a) := by rw [hW, hW0]; go_simp
  have q1 : W.cell? ⟨w.heap.size, 1, none⟩ = some (.int .i64 b) := by rw [hW, hW0]; go_simp
  have g1 : W.heap[co]? = some (.cells #[.bool ok] 4 (0, 0)) := (hB.block co (blk_lt h1)).trans h1
  have g2 : W.heap[ci]? = some (.cells #[.int .i64 i] 3 (0, 0)) := (hB.block ci (blk_lt h2)).trans h2
  have g3 : W.heap[cl]? = some (.cells #[.slice A l.length c] 24 (0, 0)) := (hB.block cl (blk_lt h3)).trans h3
  have g4 := Kd.R_below h4 hB
  have c1 : W.cell? ⟨co, 0, none⟩ = some (.bool ok) := blk_cell g1 0
  have f1 : W.frozen? ⟨co, 0, none⟩ = false := blk_frozen g1 0
  have c2 : W.cell? ⟨ci, 0, none⟩ = some (.int .i64 i) := blk_cell g2 0
  have c3 : W.cell? ⟨cl, 0, none⟩ = some (.slice A l.length c) := blk_cell g3 0
  have hfin : ∀ ok' : Bool, Hid (InvS co ci cl B A c l ((W.setCell ⟨co, 0, none⟩ (.bool ok')).setCell ⟨ci, 0, none⟩ (.int .i64 ((i + 1 : Nat) : Int))).drew own (i + 1, ok')) := fun ok' => by
    have k1 : (W.setCell ⟨co, 0, none⟩ (.bool ok')).heap[co]? = some (.cells #[.bool ok'] 4 (0, 0)) := blk_set g1 0 _
    have k2 : (W.setCell ⟨co, 0, none⟩ (.bool ok')).heap[ci]? = some (.cells #[.int .i64 i] 3 (0, 0)) := blk_far g2 (Ne.symm n1) _
    have k3 : (W.setCell ⟨co, 0, none⟩ (.bool ok')).heap[cl]? = some (.cells #[.slice A l.length c] 24 (0, 0)) := blk_far g3 (Ne.symm n2) _
    refine ⟨blk_far k1 n1 _, blk_set k2 0 _, blk_far k3 (Ne.symm n3) _, Kd.R_drew (Kd.R_far (Kd.R_far g4 (fun k hk => (h5 k hk.symm).1) _) (fun k hk => (h5 k hk.symm).2) _), ⟨n1, n2, n3⟩, h5, h6⟩
  have hkb : ∀ ok' : Bool, Hid (Kb own w ((W.setCell ⟨co, 0, none⟩ (.bool ok')).setCell ⟨ci, 0, none⟩ (.int .i64 ((i + 1 : Nat) : Int))).drew) := fun ok' =>
    (((Kb.of_below hB).set _ (.inl ((h6 co).2 (.inl rfl)))).set _ (.inl ((h6 ci).2 (.inr rfl)))).drewN 1
  have ci2 : ∀ ok' : Bool, (W.setCell ⟨co, 0, none⟩ (.bool ok')).cell? ⟨ci, 0, none⟩ = some (.int .i64 i) := fun ok' => blk_cell (blk_far g2 (Ne.symm n1) _ : (W.setCell ⟨co, 0, none⟩ (.bool ok')).heap[ci]? = _) 0
  have fi2 : ∀ ok' : Bool, (W.setCell ⟨co, 0, none⟩ (.bool ok')).frozen? ⟨ci, 0, none⟩ = false := fun ok' => blk_frozen (blk_far g2 (Ne.symm n1) _ : (W.setCell ⟨co, 0, none⟩ (.bool ok')).heap[ci]? = _) 0
  have HC := mkHid (Kd.R_reads' g4).2.2
  have hw : IntKind.i64.wrap ((i : Int) + 1) = ((i + 1 : Nat) : Int) := by rw [IntWalk.i64_in _ (by omega)]; omega
  have HW := mkHid hw
  have HF := mkHid hfin
  have HK := mkHid hkb
  have CI := mkHid ci2
  have FI := mkHid fi2
  clear h1 h2 h3 h4 h5 h6 hB g1 g2 g3 g4 hw hfin hkb ci2 fi2
  cases ok with
  | false =>
    have ci2 := CI.out false
    have fi2 := FI.out false
    go_enter Try.func52, Try.ntmps52
    go_upto_region 1 with fail
    rw [← hW0, ← hW]
    clear hW0 hW
    go_region
    clear c1 f1 c3
    go_wp2_with fail
    go_ret
    exact ⟨_, rfl, by rw [show (false && isAt l i ⟨⟨a, b⟩, v⟩) = false from rfl]; exact (HF.out false).out, fun b h => .inl h, (HK.out false).out⟩
  | true =>
    by_cases hil : i < l.length
    · obtain ⟨y, hy⟩ : ∃ y, l[i]? = some y := ⟨_, List.getElem?_eq_getElem (h := hil)⟩
      have his : Hid (isAt l i ⟨⟨a, b⟩, v⟩ = ((y.f0.f0 == a && y.f0.f1 == b) && y.f1 == v)) := by unfold Hid isAt; rw [hy]
      obtain ⟨ad, hA, d0, d1, d2⟩ := at_T43 HC.out (i : Int) (by omega) (by omega)
      rw [rd43 hy, Int.toNat_natCast] at d0 d1 d2
      subst hA
      obtain ⟨ya, hya⟩ : ∃ ya, y.f0.f0 = ya := ⟨_, rfl⟩
      obtain ⟨yb, hyb⟩ : ∃ yb, y.f0.f1 = yb := ⟨_, rfl⟩
      obtain ⟨yv, hyv⟩ : ∃ yv, y.f1 = yv := ⟨_, rfl⟩
      rw [hya] at d0 his
      rw [hyb] at d1 his
      rw [hyv] at d2 his
      clear hy hya hyb hyv
      by_cases e1 : ya = a
      · by_cases e2 : yb = b
        · have e12 : (ya == a && yb == b) = true := by simp [e1, e2]
          rw [e12, Bool.true_and] at his
          subst e1 e2
          have ci2 := CI.out (yv == v)
          have fi2 := FI.out (yv == v)
          go_enter Try.func52, Try.ntmps52
          go_upto_region 1 with fail
          rw [← hW0, ← hW]
          clear hW0 hW
          go_region
          clear c1 f1 c3
          go_wp2_with fail
          go_ret
          exact ⟨_, rfl, by rw [show (true && isAt l i ⟨⟨ya, yb⟩, v⟩) = (yv == v) from by rw [Bool.true_and]; exact his.out]; exact (HF.out (yv == v)).out, fun b h => .inl h, (HK.out (yv == v)).out⟩
        · have e12 : (ya == a && yb == b) = false := by simp [e2]
          rw [e12, Bool.false_and] at his
          subst e1
          have ci2 := CI.out false
          have fi2 := FI.out false
          go_enter Try.func52, Try.ntmps52
          go_upto_region 1 with fail
          rw [← hW0, ← hW]
          clear hW0 hW
          go_region
          clear c1 f1 c3
          go_wp2_with fail
          go_ret
          exact ⟨_, rfl, by rw [show (true && isAt l i ⟨⟨ya, b⟩, v⟩) = false from by rw [Bool.true_and]; exact his.out]; exact (HF.out false).out, fun b h => .inl h, (HK.out false).out⟩
      · have e12 : (ya == a && yb == b) = false := by simp [e1]
        rw [e12, Bool.false_and] at his
        have ci2 := CI.out false
        have fi2 := FI.out false
        go_enter Try.func52, Try.ntmps52
        go_upto_region 1 with fail
        rw [← hW0, ← hW]
        clear hW0 hW
        go_region
        clear c1 f1 c3
        go_wp2_with fail
        go_ret
        exact ⟨_, rfl, by rw [show (true && isAt l i ⟨⟨a, b⟩, v⟩) = false from by rw [Bool.true_and]; exact his.out]; exact (HF.out false).out, fun b h => .inl h, (HK.out false).out⟩
    · have hd : decide ((i : Int) < (l.length : Int)) = false := decide_eq_false (by omega)
      have hd2 : decide (i < l.length) = false := decide_eq_false hil
      have his : Hid (isAt l i ⟨⟨a, b⟩, v⟩ = false) := by unfold Hid isAt; rw [List.getElem?_eq_none (by omega)]
      clear hil
      have ci2 := CI.out false
      have fi2 := FI.out false
      go_enter Try.func52, Try.ntmps52
      go_upto_region 1 with fail
      rw [← hW0, ← hW]
      clear hW0 hW
      go_region
      clear c1 f1 c3
      go_wp2_with fail
      go_ret
      exact ⟨_, rfl, by rw [show (true && isAt l i ⟨⟨a, b⟩, v⟩) = false from by rw [Bool.true_and]; exact his.out]; exact (HF.out false).out, fun b h => .inl h, (HK.out false).out⟩
end Go.Proofs.Ytnihacajjpcjeaa

end
section
namespace Go.Proofs.Ytnihacajjpcjeaa
open Go.RowKit Go.Proofs.Ytnihacajjpcjeaa.P Go.Proofs.YtnihacajjpcjeaaW.PrintWords Go.Proofs.YtnihacajjpcjeaaW.PrintLast Go.Proofs.YtnihacajjpcjeaaW.PrintMore
set_option linter.unusedVariables false
set_option linter.unusedSimpArgs false

theorem samS_does (co ci cl B : Nat) (A : Option Addr) (c : Nat) (l : List S43) (hlen : l.length ≤ 1000) : Does 52 #[.pointer (some ⟨co, 0, none⟩), .pointer (some ⟨ci, 0, none⟩), .pointer (some ⟨cl, 0, none⟩)] (samS l) (InvS co ci cl B A c l) (fun s => s.1) where
  enters := fun args W => by kernel_rfl
  read := fun w w' own s ⟨h1, h2, h3, h4, h5, h6, h7⟩ hb => ⟨(hb.block _ (blk_lt h1)).trans h1, (hb.block _ (blk_lt h2)).trans h2, (hb.block _ (blk_lt h3)).trans h3, Kd.R_below h4 hb, h5, h6, h7⟩
  lt := fun w own s ⟨h1, h2, h3, h4, h5, h6, h7⟩ b hb => by
    rcases (h7 b).1 hb with rfl | rfl
    · exact blk_lt h1
    · exact blk_lt h2
  grow := fun s x => Nat.le_refl _
  does := fun w own s π v hc hI => samS_calls co ci cl B A c l hlen w own s (adrW π) (π.length : Int) v hc hI
theorem blk_drew {w : World} {b : Nat} {o : Obj} (h : w.heap[b]? = some o) : w.drew.heap[b]? = some o := h
theorem blk_last2 (w : World) (c1 c2 : Array Value) (t1 t2 : TypeId) : ((w.alloc (.cells c1 t1)).alloc (.cells c2 t2)).heap[w.heap.size + 1]? = some (.cells c2 t2 (0, 0)) := by
  have := heap_alloc_new (w.alloc (.cells c1 t1)) (.cells c2 t2)
  rw [World.size_alloc] at this
  exact this
theorem blk_first2 (w : World) (c1 c2 : Array Value) (t1 t2 : TypeId) : ((w.alloc (.cells c1 t1)).alloc (.cells c2 t2)).heap[w.heap.size]? = some (.cells c1 t1 (0, 0)) := blk_alloc (heap_alloc_new w _) _
set_option maxHeartbeats 8000000 in
set_option maxRecDepth 100000 in
theorem same_calls (w0 w : World) (bt : Nat) (own : Nat → Prop) (n : Int) (m : Way → Option Int) (A : Option Addr) (c : Nat) (l : List S43) (H : SO w0 w bt own n m (.slice A l.length c) l) (hl : l.length ≤ 100) :
    Calls Try.prog 31 #[.pointer (some ⟨bt, 0, none⟩), .slice A l.length c] w fun e w' => e = .returned (.bool true) ∧ Below w.heap.size w w' := by
  have hn := H.len
  obtain ⟨W, hW⟩ : ∃ W, W = w.alloc (.cells #[.slice A l.length c] 24) := ⟨_, rfl⟩
  obtain ⟨cl, hcl⟩ : ∃ cl, cl = w.heap.size := ⟨_, rfl⟩
  have hB : Below w.heap.size w W := by rw [hW]; exact Below.alloc (Below.refl _ w) (Nat.le_refl _) _
  have HB := mkHid hB
  have g3 : W.heap[cl]? = some (.cells #[.slice A l.length c] 24 (0, 0)) := by rw [hW, hcl]; exact heap_alloc_new _ _
  have G3 := mkHid g3
  have c3 : W.cell? ⟨cl, 0, none⟩ = some (.slice A l.length c) := blk_cell g3 0
  have hsz : W.heap.size = cl + 1 := by rw [hW, hcl]; simp
  have HSZ := mkHid hsz
  have HCL := mkHid hcl
  have HS := mkHid H
  subst hn
  have hcall : Hid (∀ wx, Below W.heap.size W wx → Calls Try.prog 17 #[.pointer (some ⟨bt, 0, none⟩)] wx fun e w' => e = .returned (.int .i64 (l.length : Int)) ∧ w' = wx) := fun wx hb =>
    len_calls wx bt own _ m ((H.tri.below hB).below hb)
  have hlt : cl < W.heap.size := by omega
  have hne : (cl = W.heap.size) = False := by simp; omega
  clear hsz hB g3 H
  go_enter Try.func31, Try.ntmps31
  go_upto_region 1 with fail
  rw [← hW, ← hcl]
  clear hW hcl
  rename_i Q' K hK
  have hrest : Hid (∀ (co ci : Nat) (X : World), X.heap[co]? = some (.cells #[.bool true] 4 (0, 0)) → X.heap[ci]? = some (.cells #[.int .i64 0] 3 (0, 0)) → co ≠ ci → W.heap.size ≤ co → W.heap.size ≤ ci → Below W.heap.size W X →
      K ⟨#[.pointer (some ⟨bt, 0, none⟩), .slice A l.length c, undef, .pointer (some ⟨cl, 0, none⟩), .bool false, .pointer (some ⟨ci, 0, none⟩), .pointer (some ⟨co, 0, none⟩), .pointer (some ⟨bt, 0, none⟩), .int .i64 (l.length : Int), .slice A l.length c, .int .i64 (l.length : Int), .bool true, undef, undef, undef, undef, undef, undef, undef, undef, undef, undef], []⟩ X) := fun co ci X g1 g2 hne hco hci hX => by
    have HX := mkHid hX
    have g3 := (hX.block cl (by have := HSZ.out; omega)).trans G3.out
    have hSX : SO w0 X bt own _ m (.slice A l.length c) l := (HS.out.read HB.out).read hX
    have hrow : Kd.R k43 43 X w0.heap.size (fun k => some k = (Value.slice A l.length c).ownBlock) (.slice A l.length c) l := Kd.R_tight rfl hSX.row
    have hlt : ∀ k, (Value.slice A l.length c).ownBlock = some k → k < w.heap.size := Kd.R_lt HS.out.row
    have hI : InvS co ci cl w0.heap.size A c l X (fun b => b = co ∨ b = ci) (0, true) :=
      ⟨g1, g2, g3, hrow, ⟨hne, by have := HSZ.out; omega, by have := HSZ.out; omega⟩, fun k hk => by have h1 := hlt k hk; have h2 := HSZ.out; have h3 := HCL.out; exact ⟨by omega, by omega⟩, fun b => Iff.rfl⟩
    have hcall2 := mkHid (each_calls 52 #[.pointer (some ⟨co, 0, none⟩), .pointer (some ⟨ci, 0, none⟩), .pointer (some ⟨cl, 0, none⟩)] (samS l) (InvS co ci cl w0.heap.size A c l) (fun s => s.1) (samS_does co ci cl w0.heap.size A c l (by omega)) X bt own _ m l hSX.tri hSX.rel (fun b => b = co ∨ b = ci) (0, true) hI
      (fun b hb ho => by have h1 := (HS.out.ownb b ho).2; have h2 := HSZ.out; have h3 := HCL.out; rcases hb with h | h <;> omega) (by show 0 + l.length ≤ 1000; omega))
    rw [run_same l l 0 rfl, Nat.zero_add] at hcall2
    have HO : Hid (∀ b, (b = co ∨ b = ci) → W.heap.size ≤ b) := fun b h => by rcases h with h | h <;> omega
    clear g1 g2 g3 hSX hrow hlt hI hX hne hco hci
    apply hK
    go_wp2_with fail
    refine hcall2.out.mono ?_
    rintro e w5 ⟨own', rfl, hI5, ho5, hk5⟩
    obtain ⟨h1, h2, h3, _⟩ := hI5
    have q1 : w5.cell? ⟨co, 0, none⟩ = some (.bool true) := blk_cell h1 0
    have q2 : w5.cell? ⟨ci, 0, none⟩ = some (.int .i64 (l.length : Int)) := blk_cell h2 0
    have q3 : w5.cell? ⟨cl, 0, none⟩ = some (.slice A l.length c) := blk_cell h3 0
    have HF : Hid (Below w.heap.size w w5) := (HB.out.trans (HX.out.mono HB.out.size)).trans (hk5.below (B := w.heap.size) (Nat.le_trans HB.out.size HX.out.size) (fun i h => Nat.le_trans HB.out.size (HO.out i h)))
    clear h1 h2 h3 ho5 hk5 hcall2
    go_wp2_with fail
    go_ret
    exact ⟨rfl, HF.out⟩
  clear HS HB G3 HSZ HCL hK
  go_region_with (go_at_call 17; refine (hcall.out _ (by repeat (first | exact Below.refl _ _ | apply below_drew | apply below_alloc))).mono ?_; rintro e w' ⟨rfl, rfl⟩)
  all_goals first
    | exact hrest.out (W.heap.size + 1) W.heap.size _ (blk_drew (blk_last2 _ _ _ _ _)) (blk_drew (blk_first2 _ _ _ _ _)) (by omega) (by omega) (by omega) (below_drew (below_alloc (below_alloc (Below.refl _ _) _) _))
    | exact hrest.out W.heap.size (W.heap.size + 1) _ (blk_drew (blk_first2 _ _ _ _ _)) (blk_drew (blk_last2 _ _ _ _ _)) (by omega) (by omega) (by omega) (below_drew (below_alloc (below_alloc (Below.refl _ _) _) _))
end Go.Proofs.Ytnihacajjpcjeaa

end
section
namespace Go.Proofs.Ytnihacajjpcjeaa
open Go.RowKit Go.Proofs.Ytnihacajjpcjeaa.P Go.Proofs.YtnihacajjpcjeaaW.PrintWords Go.Proofs.YtnihacajjpcjeaaW.PrintLast Go.Proofs.YtnihacajjpcjeaaW.PrintMore
set_option linter.unusedVariables false
set_option linter.unusedSimpArgs false

theorem keep2 {P : Program} {f : FuncId} {args : Array Value} {X : World} {R : World → Value → Prop} (h : Calls P f args X fun e w' => ∃ v : Value, e = .returned v ∧ R w' v ∧ Below X.heap.size X w') {p1 p2 : Addr} {v1 v2 : Value} (h1 : X.cell? p1 = some v1) (h2 : X.cell? p2 = some v2) :
    Calls P f args X fun e w' => ∃ v : Value, e = .returned v ∧ R w' v ∧ (w'.cell? p1 = some v1 ∧ w'.cell? p2 = some v2) ∧ Below X.heap.size X w' := by
  refine h.mono ?_
  rintro e w' ⟨v, hv, hr, hb⟩
  exact ⟨v, hv, hr, ⟨cell_keep hb h1, cell_keep hb h2⟩, hb⟩
theorem same_keep {X : World} {u v : Value} {L : List S34} {b1 b2 : Nat} (hu : Kd.R k34 34 X b1 (fun _ => True) u L) (hv : Kd.R k34 34 X b2 (fun _ => True) v L) (hl : L.length ≤ 1000000) {p1 p2 : Addr} {v1 v2 : Value} (h1 : X.cell? p1 = some v1) (h2 : X.cell? p2 = some v2) :
    Calls Try.prog 28 #[u, v] X fun e w' => e = .returned (.bool true) ∧ (w'.cell? p1 = some v1 ∧ w'.cell? p2 = some v2) ∧ Below X.heap.size X w' := by
  obtain ⟨A1, c1, rfl⟩ := Kd.R_slice hu
  obtain ⟨A2, c2, rfl⟩ := Kd.R_slice hv
  refine (same_rows hu hv rfl hl).mono ?_
  rintro e w' ⟨rfl, ⟨nd, rfl⟩⟩
  exact ⟨rfl, ⟨h1, h2⟩, pw_below_drewN (Below.refl _ _) _⟩
set_option maxHeartbeats 16000000 in
set_option maxRecDepth 100000 in
theorem asks_calls (w0 w : World) (bt : Nat) (own : Nat → Prop) (n : Int) (m : Way → Option Int) (A : Option Addr) (c : Nat) (l : List S43) (H : SO w0 w bt own n m (.slice A l.length c) l) (hl : l.length ≤ 100) (kd vv a b Ad : Int) (ha : isA a) (hAd : isA Ad) :
    Calls Try.prog 32 #[.pointer (some ⟨bt, 0, none⟩), .slice A l.length c, .agg #[.int .i64 kd, .int .i64 vv, .int .u32 a, .int .i64 b, .int .u32 Ad]] w fun e w' => e = .returned (.bool true) ∧ Below w.heap.size w w' := by
  obtain ⟨W, hW⟩ : ∃ W, W = w.alloc (.cells #[.int .i64 kd, .int .i64 vv, .int .u32 a, .int .i64 b, .int .u32 Ad] 61) := ⟨_, rfl⟩
  have hB : Below w.heap.size w W := by rw [hW]; exact Below.alloc (Below.refl _ w) (Nat.le_refl _) _
  have HB := mkHid hB
  have HS := mkHid (H.read hB)
  have hC : ∀ wx, Below W.heap.size W wx → Kd.C k43 wx A l.length l := fun wx hb => (Kd.R_reads' (Kd.R_below HS.out.row hb)).2.2
  have hcap : l.length ≤ c := (Kd.R_reads' HS.out.row).2.1
  have q2 : W.cell? ⟨w.heap.size, 2, none⟩ = some (.int .u32 a) := by rw [hW]; go_simp
  have q3 : W.cell? ⟨w.heap.size, 3, none⟩ = some (.int .i64 b) := by rw [hW]; go_simp
  have q4 : W.cell? ⟨w.heap.size, 4, none⟩ = some (.int .u32 Ad) := by rw [hW]; go_simp
  have hR : Rel m l := H.rel
  have hokl : ∀ x ∈ l, isA x.f0.f0 := fun x hx => (hR.ok x hx).1.1
  have hTri : ∀ wx, Below W.heap.size W wx → Tri kI wx bt own n m := fun wx hb => HS.out.tri.below hb
  obtain ⟨u, t, s1, s2, s3, s4⟩ := atL_spec ⟨a, b⟩ l hR.srt
  -- what the plain list answers
  obtain ⟨kat, hkat⟩ := (at_ev l a b (by omega)).ex
  obtain ⟨kmay, hkmay⟩ := (refMay_ev a b ha).ex
  obtain ⟨kab, hkab⟩ := (aboveL_ev l a b ha hokl (by omega)).ex
  obtain ⟨kbl, hkbl⟩ := (below_ev l a b ha hokl (by omega)).ex
  obtain ⟨rl, hlev, hlP⟩ := longest_ev l Ad hAd (fun x hx => (hR.ok x hx).1) (by omega)
  obtain ⟨kl, hkl⟩ := hlev.ex
  have hls := longest_same hR hAd hlP
  have hat : Hid (∀ wx, Below W.heap.size W wx → Calls Try.prog 40 #[.slice A l.length c, .agg #[.int .u32 a, .int .i64 b]] wx fun e w' => e = .returned (.tuple #[.int .i64 ((atL ⟨a, b⟩ l).1 : Int), .bool (atL ⟨a, b⟩ l).2]) ∧ Below wx.heap.size wx w') := fun wx hb =>
    whirligigref06_At.calls kat A c l a b _ _ wx (hC wx hb) hcap hkat
  have hrab : Hid (∀ wx, Below W.heap.size W wx → Calls Try.prog 54 #[.slice A l.length c, .agg #[.int .u32 a, .int .i64 b]] wx fun e w' => ∃ v0_ : Value, e = .returned v0_ ∧ Kd.R k34 34 w' wx.heap.size (fun _ => True) v0_ (abvL l ⟨a, b⟩) ∧ Below wx.heap.size wx w') := fun wx hb =>
    whirligigref06_Above.calls kab A c l a b _ wx (hC wx hb) hcap hkab
  have hrbl : Hid (∀ wx, Below W.heap.size W wx → Calls Try.prog 39 #[.slice A l.length c, .agg #[.int .u32 a, .int .i64 b]] wx fun e w' => ∃ v0_ : Value, e = .returned v0_ ∧ Kd.R k34 34 w' wx.heap.size (fun _ => True) v0_ (belL l ⟨a, b⟩) ∧ Below wx.heap.size wx w') := fun wx hb =>
    whirligigref06_Below.calls kbl A c l a b _ wx (hC wx hb) hcap hkbl
  have hrlg : Hid (∀ wx, Below W.heap.size W wx → Calls Try.prog 53 #[.slice A l.length c, .int .u32 Ad] wx fun e w' => e = .returned (.int .i64 rl) ∧ Below wx.heap.size wx w') := fun wx hb =>
    whirligigref06_Longest.calls kl A c l Ad _ wx (hC wx hb) hcap hkl
  have hmay : Hid (∀ wx : World, Calls Try.prog 27 #[.agg #[.int .u32 a, .int .i64 b]] wx fun e w' => e = .returned (.bool (mayB a b)) ∧ Below wx.heap.size wx w') := fun wx =>
    whirligigref01_May.calls kmay a b _ wx hkmay
  have hlng : Hid (∀ wx, Below W.heap.size W wx → Calls Try.prog 21 #[.pointer (some ⟨bt, 0, none⟩), .int .u32 Ad] wx fun e w' => e = .returned (.tuple #[.agg #[.int .u32 (bA Ad (bstT m Ad 33)), .int .i64 (bB (bstT m Ad 33))], .int .i64 (bV (bstT m Ad 33)), .bool (bstT m Ad 33).isSome]) ∧ Below wx.heap.size wx w') := fun wx hb =>
    lng_calls wx bt own n m (hTri wx hb) Ad hAd.1 (by have := hAd.2; omega)
  have hM : addr_May.f a b = some (mayB a b) := may_is _ _ ha
  have hget : Hid (∀ wx, Below W.heap.size W wx → Calls Try.prog 23 #[.pointer (some ⟨bt, 0, none⟩), .agg #[.int .u32 a, .int .i64 b]] wx fun e w' => e = .returned (.tuple #[.int .i64 ((look (mayB a b) m a b).getD 0), .bool (look (mayB a b) m a b).isSome]) ∧ Below wx.heap.size wx w') := fun wx hb =>
    get_calls wx bt own n m (hTri wx hb) a b _ ha.1 (by have := ha.2; omega) hM
  have hab : Hid (∀ wx, Below W.heap.size W wx → Calls Try.prog 20 #[.pointer (some ⟨bt, 0, none⟩), .agg #[.int .u32 a, .int .i64 b]] wx fun e w' => ∃ v : Value, e = .returned v ∧ Kd.R k34 34 w' wx.heap.size (fun _ => True) v (abvL l ⟨a, b⟩) ∧ Below wx.heap.size wx w') := fun wx hb => by
    cases hm : mayB a b with
    | false =>
      rw [hm] at hM
      refine (above_not wx bt a b hM).mono ?_
      rintro e w' ⟨rfl, hb'⟩
      rw [above_none (p := ⟨a, b⟩) hm]
      exact ⟨_, rfl, Kd.R_nil _ _ _ _ _, hb'⟩
    | true =>
      rw [hm] at hM
      obtain ⟨b0, b1⟩ := may_bits hM
      obtain ⟨N, rfl⟩ : ∃ N : Nat, b = N := ⟨b.toNat, by omega⟩
      have h := above_calls wx bt own n m (hTri wx hb) a N ha.1 (by have := ha.2; omega) (by omega) hM
      rw [show abvT m a (N + 1) = abvL l ⟨a, (N : Int)⟩ from above_same hR (p := ⟨a, (N : Int)⟩) ⟨ha, hm⟩] at h
      exact h
  have hbl : Hid (∀ wx, Below W.heap.size W wx → Calls Try.prog 26 #[.pointer (some ⟨bt, 0, none⟩), .agg #[.int .u32 a, .int .i64 b]] wx fun e w' => ∃ v : Value, e = .returned v ∧ Kd.R k34 34 w' wx.heap.size (fun _ => True) v (belL l ⟨a, b⟩) ∧ Below wx.heap.size wx w') := fun wx hb => by
    cases hm : mayB a b with
    | false =>
      rw [hm] at hM
      refine (below_not wx bt a b hM).mono ?_
      rintro e w' ⟨rfl, hb'⟩
      rw [below_none (p := ⟨a, b⟩) hm]
      exact ⟨_, rfl, Kd.R_nil _ _ _ _ _, hb'⟩
    | true =>
      rw [hm] at hM
      obtain ⟨π, hπ, e1, e2, hway⟩ := may_way a b ha hM
      have hs := below_same hR (p := ⟨a, b⟩) ⟨ha, hm⟩
      rw [show wayP ⟨a, b⟩ = π from hway] at hs
      rw [← hs]
      subst e1 e2
      exact below_w wx bt own n m l (hTri wx hb) (fun b' h => Nat.lt_of_lt_of_le (HS.out.ownb b' h).2 hb.size) hR hl π hπ
  have hcase : (mayB a b = false ∧ look (mayB a b) m a b = none) ∨ (mayB a b = true ∧ look (mayB a b) m a b = none ∧ (atL ⟨a, b⟩ l).2 = false) ∨ ∃ x : S43, mayB a b = true ∧ look (mayB a b) m a b = some x.f1 ∧ (atL ⟨a, b⟩ l).2 = true ∧ l[(atL ⟨a, b⟩ l).1]? = some x := by
    cases hm : mayB a b with
    | false => exact .inl ⟨rfl, rfl⟩
    | true =>
      have hp : okP ⟨a, b⟩ := ⟨ha, hm⟩
      have his := at_mem hR hp s2 s3 s4
      have hlk : look true m a b = m (wayP ⟨a, b⟩) := rfl
      rcases s4 with ⟨hb2, x, hx, h⟩ | ⟨hb2, h⟩
      · refine .inr (.inr ⟨x, rfl, ?_, hb2, ?_⟩)
        · rw [hlk, ← hx]
          exact (hR.ok x (by rw [h]; simp)).2
        · rw [s1, h]; simp
      · refine .inr (.inl ⟨rfl, ?_, hb2⟩)
        rw [hlk]
        rw [hb2] at his
        cases hmm : m (wayP ⟨a, b⟩) with
        | none => rfl
        | some v => rw [hmm] at his; cases his
  obtain ⟨La, hLa⟩ : ∃ La, La = abvL l ⟨a, b⟩ := ⟨_, rfl⟩
  obtain ⟨Lb, hLb⟩ : ∃ Lb, Lb = belL l ⟨a, b⟩ := ⟨_, rfl⟩
  have hLal : Hid (La.length ≤ 1000000) := by unfold Hid; rw [hLa]; unfold abvL; rw [List.length_map]; exact Nat.le_trans (List.length_filter_le _ _) (by omega)
  have hLbl : Hid (Lb.length ≤ 1000000) := by unfold Hid; rw [hLb]; unfold belL; rw [List.length_map]; exact Nat.le_trans (List.length_filter_le _ _) (by omega)
  rw [← hLa] at hab hrab
  rw [← hLb] at hbl hrbl
  obtain ⟨at1, hat1⟩ : ∃ k, (atL ⟨a, b⟩ l).1 = k := ⟨_, rfl⟩
  obtain ⟨at2, hat2⟩ : ∃ k, (atL ⟨a, b⟩ l).2 = k := ⟨_, rfl⟩
  obtain ⟨lk, hlk⟩ : ∃ k, look (mayB a b) m a b = k := ⟨_, rfl⟩
  obtain ⟨mb, hmb⟩ : ∃ k, mayB a b = k := ⟨_, rfl⟩
  obtain ⟨bs, hbs⟩ : ∃ k, bstT m Ad 33 = k := ⟨_, rfl⟩
  rw [hat1, hat2] at hat
  rw [hlk] at hget
  rw [hmb] at hmay
  rw [hbs] at hlng hls
  rw [hat1, hat2, hlk, hmb] at hcase
  have HC := mkHid hC
  clear hLa hLb hat1 hat2 hlk hmb hbs hkat hkmay hkab hkbl hlev hlP hkl hM s1 s2 s3 s4 hTri hokl hR H hB hC hcap
  obtain ⟨bsa, hbsa⟩ : ∃ k, bA Ad bs = k := ⟨_, rfl⟩
  obtain ⟨bsb, hbsb⟩ : ∃ k, bB bs = k := ⟨_, rfl⟩
  obtain ⟨bsv, hbsv⟩ : ∃ k, bV bs = k := ⟨_, rfl⟩
  obtain ⟨bss, hbss⟩ : ∃ k, bs.isSome = k := ⟨_, rfl⟩
  have hls2 : (bss = false ∧ bsa = 0 ∧ bsb = 0 ∧ bsv = 0 ∧ rl = -1) ∨ ∃ (n : Nat) (x : S43), rl = n ∧ l[n]? = some x ∧ bss = true ∧ bsa = x.f0.f0 ∧ bsb = x.f0.f1 ∧ bsv = x.f1 := by
    rcases hls with ⟨h1, h2⟩ | ⟨n, x, h1, h2, h3, h4, h5, h6⟩
    · refine .inl ⟨by rw [← hbss, h1]; rfl, by rw [← hbsa, h1]; rfl, by rw [← hbsb, h1]; rfl, by rw [← hbsv, h1]; rfl, h2⟩
    · exact .inr ⟨n, x, h1, h2, hbss.symm.trans h3, hbsa.symm.trans h4, hbsb.symm.trans h5, hbsv.symm.trans h6⟩
  rw [hbsa, hbsb, hbsv, hbss] at hlng
  clear hls hbsa hbsb hbsv hbss bs
  obtain ⟨gv, hgv⟩ : ∃ k, lk.getD 0 = k := ⟨_, rfl⟩
  obtain ⟨okb, hokb⟩ : ∃ k, lk.isSome = k := ⟨_, rfl⟩
  have hcase2 : (mb = false ∧ gv = 0 ∧ okb = false) ∨ (mb = true ∧ gv = 0 ∧ okb = false ∧ at2 = false) ∨ ∃ x : S43, mb = true ∧ gv = x.f1 ∧ okb = true ∧ at2 = true ∧ l[at1]? = some x := by
    rcases hcase with ⟨h1, h2⟩ | ⟨h1, h2, h3⟩ | ⟨x, h1, h2, h3, h4⟩
    · exact .inl ⟨h1, by rw [← hgv, h2]; rfl, by rw [← hokb, h2]; rfl⟩
    · exact .inr (.inl ⟨h1, by rw [← hgv, h2]; rfl, by rw [← hokb, h2]; rfl, h3⟩)
    · exact .inr (.inr ⟨x, h1, by rw [← hgv, h2]; rfl, by rw [← hokb, h2]; rfl, h3, h4⟩)
  rw [hgv, hokb] at hget
  clear hcase hgv hokb lk
  obtain ⟨ln, hln⟩ : ∃ ln, ln = l.length := ⟨_, rfl⟩
  have HLN := mkHid hln
  rcases hcase2 with ⟨rfl, rfl, rfl⟩ | ⟨rfl, rfl, rfl, rfl⟩ | ⟨x, rfl, rfl, rfl, rfl, hx⟩
  case' inr.inr =>
    go_enter Try.func32, Try.ntmps32
    go_upto_region 1 with fail
    rw [← hW]
    clear hW
    go_wp2_with fail
    refine (hget.out _ (Below.refl _ _)).mono ?_
    rintro e w1 ⟨rfl, hb1⟩
    have B1 : Hid (Below W.heap.size W w1) := hb1
    replace q2 := cell_keep hb1 q2
    replace q3 := cell_keep hb1 q3
    replace q4 := cell_keep hb1 q4
    clear hb1
    go_wp2_with fail
    refine (hat.out _ B1.out).mono ?_
    rintro e w2 ⟨rfl, hb2⟩
    have B2 := mkHid (below_step B1.out hb2)
    replace q2 := cell_keep hb2 q2
    replace q3 := cell_keep hb2 q3
    replace q4 := cell_keep hb2 q4
    clear hb2
    go_wp2_with fail
    refine (hmay.out _).mono ?_
    rintro e w3 ⟨rfl, hb3⟩
    have B3 := mkHid (below_step B2.out hb3)
    replace q2 := cell_keep hb3 q2
    replace q3 := cell_keep hb3 q3
    replace q4 := cell_keep hb3 q4
    clear hb3 B1 B2 hget hat hmay
    go_upto_region 5 with fail
    have hil : at1 < l.length := (List.getElem?_eq_some_iff.1 hx).1
    obtain ⟨ad, hA, d0, d1, d2⟩ := at_T43 (HC.out w3 B3.out) (at1 : Int) (by omega) (by omega)
    rw [rd43 hx, Int.toNat_natCast] at d0 d1 d2
    clear d0 d1 hx
    subst hA
  case' inl =>
    go_enter Try.func32, Try.ntmps32
    go_upto_region 1 with fail
    rw [← hW]
    clear hW
    go_wp2_with fail
    refine (hget.out _ (Below.refl _ _)).mono ?_
    rintro e w1 ⟨rfl, hb1⟩
    have B1 : Hid (Below W.heap.size W w1) := hb1
    replace q2 := cell_keep hb1 q2
    replace q3 := cell_keep hb1 q3
    replace q4 := cell_keep hb1 q4
    clear hb1
    go_wp2_with fail
    refine (hat.out _ B1.out).mono ?_
    rintro e w2 ⟨rfl, hb2⟩
    have B2 := mkHid (below_step B1.out hb2)
    replace q2 := cell_keep hb2 q2
    replace q3 := cell_keep hb2 q3
    replace q4 := cell_keep hb2 q4
    clear hb2
    go_wp2_with fail
    refine (hmay.out _).mono ?_
    rintro e w3 ⟨rfl, hb3⟩
    have B3 := mkHid (below_step B2.out hb3)
    replace q2 := cell_keep hb3 q2
    replace q3 := cell_keep hb3 q3
    replace q4 := cell_keep hb3 q4
    clear hb3 B1 B2 hget hat hmay
    go_upto_region 5 with fail
  case' inr.inl =>
    go_enter Try.func32, Try.ntmps32
    go_upto_region 1 with fail
    rw [← hW]
    clear hW
    go_wp2_with fail
    refine (hget.out _ (Below.refl _ _)).mono ?_
    rintro e w1 ⟨rfl, hb1⟩
    have B1 : Hid (Below W.heap.size W w1) := hb1
    replace q2 := cell_keep hb1 q2
    replace q3 := cell_keep hb1 q3
    replace q4 := cell_keep hb1 q4
    clear hb1
    go_wp2_with fail
    refine (hat.out _ B1.out).mono ?_
    rintro e w2 ⟨rfl, hb2⟩
    have B2 := mkHid (below_step B1.out hb2)
    replace q2 := cell_keep hb2 q2
    replace q3 := cell_keep hb2 q3
    replace q4 := cell_keep hb2 q4
    clear hb2
    go_wp2_with fail
    refine (hmay.out _).mono ?_
    rintro e w3 ⟨rfl, hb3⟩
    have B3 := mkHid (below_step B2.out hb3)
    replace q2 := cell_keep hb3 q2
    replace q3 := cell_keep hb3 q3
    replace q4 := cell_keep hb3 q4
    clear hb3 B1 B2 hget hat hmay
    go_upto_region 5 with fail
  all_goals
    go_wp2_with fail
    refine (hlng.out _ B3.out).mono ?_
    rintro e w4 ⟨rfl, hb4⟩
    have B4 := mkHid (below_step B3.out hb4)
    replace q2 := cell_keep hb4 q2
    replace q3 := cell_keep hb4 q3
    replace q4 := cell_keep hb4 q4
    clear hb4 B3 hlng
    go_upto_region 8 with fail
    obtain ⟨W5, hW5⟩ : ∃ W5, W5 = w4.alloc (.cells #[.int .u32 bsa, .int .i64 bsb] 34) := ⟨_, rfl⟩
    have hb5 : Below w4.heap.size w4 W5 := by rw [hW5]; exact Below.alloc (Below.refl _ w4) (Nat.le_refl _) _
    have B5 := mkHid (below_step B4.out hb5)
    have r0 : W5.cell? ⟨w4.heap.size, 0, none⟩ = some (.int .u32 bsa) := by rw [hW5]; go_simp
    have r1 : W5.cell? ⟨w4.heap.size, 1, none⟩ = some (.int .i64 bsb) := by rw [hW5]; go_simp
    replace q2 := cell_keep hb5 q2
    replace q3 := cell_keep hb5 q3
    replace q4 := cell_keep hb5 q4
    rw [← hW5]
    clear hW5 hb5 B4
    go_wp2_with fail
    refine (hrlg.out _ B5.out).mono ?_
    rintro e w6 ⟨rfl, hb6⟩
    have B6 := mkHid (below_step B5.out hb6)
    replace q2 := cell_keep hb6 q2
    replace q3 := cell_keep hb6 q3
    replace r0 := cell_keep hb6 r0
    replace r1 := cell_keep hb6 r1
    clear hb6 q4 hrlg B5
    go_upto_region 9 with fail
    rcases hls2 with ⟨rfl, rfl, rfl, rfl, rfl⟩ | ⟨n, y, rfl, hy, rfl, rfl, rfl, rfl⟩
    case' inl =>
      go_quiet (fail)
    case' inr =>
      have hnl : n < l.length := (List.getElem?_eq_some_iff.1 hy).1
      obtain ⟨ad, hA, e0, e1, e2⟩ := at_T43 (HC.out w6 B6.out) (n : Int) (by omega) (by omega)
      rw [rd43 hy, Int.toNat_natCast] at e0 e1 e2
      clear hy
      cases hA
      go_quiet (fail)
    all_goals
      have B7 : Hid (Below W.heap.size W (w6.drewN nq)) := pw_below_drewN B6.out _
      have z2 : (w6.drewN nq).cell? ⟨w.heap.size, 2, none⟩ = some (.int .u32 a) := q2
      have z3 : (w6.drewN nq).cell? ⟨w.heap.size, 3, none⟩ = some (.int .i64 b) := q3
      go_upto_region 11 with fail
      clear q2 q3 B6 r0 r1
      generalize w6.drewN nq = w7 at B7 z2 z3 ⊢
      go_region_held3 (fun w' => w'.cell? ⟨w.heap.size, 2, none⟩ = some (.int .u32 a) ∧ w'.cell? ⟨w.heap.size, 3, none⟩ = some (.int .i64 b)) (go_keep)
        (first | (go_at_call 20; refine (keep2 (hab.out _ (by repeat (first | exact B7.out | apply below_drew))) (by exact z2) (by exact z3)).mono ?_; rintro e w8 ⟨v1, rfl, hR1, ⟨k2, k3⟩, hb8⟩; have B8 : Hid (Below W.heap.size W w8) := below_step (by repeat (first | exact B7.out | apply below_drew)) hb8; have HR1 := mkHid hR1; clear hR1 hb8) | (go_at_call 54; refine (keep2 (hrab.out _ B8.out) (by exact k2) (by exact k3)).mono ?_; rintro e w9 ⟨v2, rfl, hR2, ⟨k4, k5⟩, hb9⟩; have B9 : Hid (Below W.heap.size W w9) := below_step B8.out hb9; have HR1b := mkHid (Kd.R_below HR1.out hb9); have HR2 := mkHid hR2; clear hR2 hb9 HR1) | (go_at_call 28; refine (same_keep HR1b.out HR2.out hLal.out (by exact k4) (by exact k5)).mono ?_; rintro e w10 ⟨rfl, ⟨k6, k7⟩, hb10⟩; have B10 : Hid (Below W.heap.size W w10) := below_step B9.out hb10; clear hb10 HR1b HR2) | (go_at_call 26; refine (keep2 (hbl.out _ B10.out) (by exact k6) (by exact k7)).mono ?_; rintro e w11 ⟨v3, rfl, hR3, ⟨k8, k9⟩, hb11⟩; have B11 : Hid (Below W.heap.size W w11) := below_step B10.out hb11; have HR3 := mkHid hR3; clear hR3 hb11) | (go_at_call 39; refine (keep2 (hrbl.out _ B11.out) (by exact k8) (by exact k9)).mono ?_; rintro e w12 ⟨v4, rfl, hR4, ⟨k10, k11⟩, hb12⟩; have B12 : Hid (Below W.heap.size W w12) := below_step B11.out hb12; have HR3b := mkHid (Kd.R_below HR3.out hb12); have HR4 := mkHid hR4; clear hR4 hb12 HR3) | (go_at_call 28; refine (same_keep HR3b.out HR4.out hLbl.out (by exact k10) (by exact k11)).mono ?_; rintro e w13 ⟨rfl, ⟨k12, k13⟩, hb13⟩; have B13 : Hid (Below W.heap.size W w13) := below_step B12.out hb13; clear hb13 HR3b HR4))
      all_goals
        have HF : Hid (Below w.heap.size w w13) := HB.out.trans (B13.out.mono HB.out.size)
        go_wp2_with fail
        go_ret
        exact ⟨rfl, HF.out⟩
end Go.Proofs.Ytnihacajjpcjeaa

end
section
namespace Go.Proofs.Ytnihacajjpcjeaa
open Go.RowKit Go.Proofs.Ytnihacajjpcjeaa.P Go.Proofs.YtnihacajjpcjeaaW.PrintWords Go.Proofs.YtnihacajjpcjeaaW.PrintLast Go.Proofs.YtnihacajjpcjeaaW.PrintMore
set_option linter.unusedVariables false
set_option linter.unusedSimpArgs false

set_option maxHeartbeats 8000000 in
set_option maxRecDepth 100000 in
theorem plays_calls (w : World) (A0 : Option Addr) (c0 : Nat) (l0 : List S61) (hr0 : Kd.C k61 w A0 l0.length l0) (hc0 : l0.length ≤ c0) (hok : ∀ x ∈ l0, isA x.f2.f0 ∧ isA x.f3) :
    Calls Try.prog 7 #[.slice A0 l0.length c0] w fun e w' => e = .returned (.bool true) ∧ Below w.heap.size w w' := by
  have hmax := Kd.C_max hr0
  have HR0 := mkHid hr0
  have HOK := mkHid hok
  clear hr0 hok
  go_enter Try.func7, Try.ntmps7
  go_wp2_with fail
  refine (new_calls w).mono ?_
  rintro e w1 ⟨rfl, hs1, hT1, hB1⟩
  have HS1 : Hid (SO w w1 w.heap.size (fun b => b = w.heap.size) 0 (fun _ => none) (.slice none 0 0) []) :=
    ⟨hB1, hT1, fun b h => by omega, Kd.R_nil _ _ _ _ _, fun k h => by simp [Value.ownBlock] at h, rel_nil, rfl⟩
  have HB1 := mkHid hB1
  clear hT1 hB1
  go_wp2_with fail
  go_loopg [4, 5] 40 (fun kq v4 v5 wr => ∃ (i : Nat) (own : Nat → Prop) (n : Int) (m : Way → Option Int) (l : List S43), v5 = .int .i64 i ∧ i ≤ l0.length ∧ i + kq = 40 ∧ Hid (l.length ≤ i) ∧ Hid (SO w wr w.heap.size own n m v4 l))
  case atStart => exact ⟨0, _, 0, _, [], rfl, by omega, by omega, Nat.le_refl _, HS1.out⟩
  case round =>
    obtain ⟨i, own, n, m, l, rfl, hi, hk, hl, HS⟩ := hrel
    by_cases hend : i < l0.length ∧ i < 40
    · obtain ⟨q1, q2⟩ := hend
      have c2 : decide ((i : Int) < 40) = true := decide_eq_true (by omega)
      obtain ⟨x, hx⟩ : ∃ x, l0[i]? = some x := ⟨_, List.getElem?_eq_getElem (h := q1)⟩
      obtain ⟨ad, hA, d0, d1, d2, d3, d4⟩ := at_T61 (Kd.C_below HR0.out HS.out.below) (i : Int) (by omega) (by omega)
      subst hA
      have hrd : rd_T61 l0 (i : Int) = x := by unfold rd_T61; rw [Int.toNat_natCast, List.getD_eq_getElem?_getD, hx]; rfl
      rw [hrd, Int.toNat_natCast] at d0 d1 d2 d3 d4
      have hxa : isA x.f2.f0 ∧ isA x.f3 := HOK.out x (List.mem_of_getElem? hx)
      have hw : IntKind.i64.wrap ((i : Int) + 1) = ((i + 1 : Nat) : Int) := by rw [IntWalk.i64_in _ (by omega)]; omega
      have HX := mkHid hx
      clear hrd hx
      go_wp2_with fail
      refine (step_any w _ _ own n m _ l HS.out x hxa.1 (by have := hl.out; omega)).mono ?_
      rintro e w2 ⟨v', own', n', m', l', rfl, hS, hll⟩
      have HS2 := mkHid hS
      have HL2 : Hid (l'.length ≤ i + 1) := by have := hl.out; unfold Hid; omega
      obtain ⟨A2, c2', hv2⟩ := Kd.R_slice hS.row
      subst hv2
      clear hS hll d0 d1 d2 d3 d4 hl HS
      go_wp2_with fail
      refine (same_calls w w2 _ own' n' m' A2 c2' l' HS2.out (by have := HL2.out; omega)).mono ?_
      rintro e w3 ⟨rfl, hb3⟩
      have HS3 := mkHid (HS2.out.read hb3)
      clear hb3 HS2
      obtain ⟨ad', hA', d0, d1, d2, d3, d4⟩ := at_T61 (Kd.C_below HR0.out HS3.out.below) (i : Int) (by omega) (by omega)
      cases hA'
      have hrd : rd_T61 l0 (i : Int) = x := by unfold rd_T61; rw [Int.toNat_natCast, List.getD_eq_getElem?_getD, HX.out]; rfl
      rw [hrd, Int.toNat_natCast] at d0 d1 d2 d3 d4
      clear hrd
      go_wp2_with fail
      refine (asks_calls w w3 _ own' n' m' A2 c2' l' HS3.out (by have := HL2.out; omega) x.f0 x.f1 x.f2.f0 x.f2.f1 x.f3 hxa.1 hxa.2).mono ?_
      rintro e w4 ⟨rfl, hb4⟩
      have HS4 := mkHid (HS3.out.read hb4)
      clear hb4 HS3 d0 d1 d2 d3 d4
      go_wp2_with fail
      go_roundg (gk - 1)
      case measure => omega
      case rel => exact ⟨i + 1, own', n', m', l', rfl, by omega, by omega, HL2.out, HS4.out⟩
    · have hdec : (¬ i < l0.length) ∨ (i < l0.length ∧ decide ((i : Int) < 40) = false) := by
        by_cases h : i < l0.length
        · exact .inr ⟨h, decide_eq_false (by omega)⟩
        · exact .inl h
      have HB : Hid (Below w.heap.size w wr) := HS.out.below
      clear HS
      rcases hdec with c1 | ⟨c1, c2⟩
      all_goals
        go_wp2_with fail
        refine (lives_calls _).mono ?_
        rintro e w5 ⟨rfl, hb5⟩
        have HF := mkHid (below_step HB.out hb5)
        clear hb5
        go_wp2_with fail
        go_ret
        exact ⟨rfl, HF.out⟩
end Go.Proofs.Ytnihacajjpcjeaa

end
section
namespace Go.Proofs.Ytnihacajjpcjeaa.P
open Go.RowKit Go.Proofs.YtnihacajjpcjeaaW.PrintWords Go.Proofs.YtnihacajjpcjeaaW.PrintLast Go.Proofs.YtnihacajjpcjeaaW.PrintMore
attribute [local go_sem] max2_int min2_int max_two min_two max_three min_three max_four min_four   -- for this text's walks alone
set_option linter.unusedVariables false
set_option linter.unusedSimpArgs false

def whirligiglaw06_TriePlays.f (k : Nat) (l0 : List (S61)) : Option (Bool) := if (l0.all fun x => (decide (0 ≤ x.f2.f0) && decide (x.f2.f0 ≤ 4294967295)) && (decide (0 ≤ x.f3) && decide (x.f3 ≤ 4294967295))) = true then some true else none
theorem whirligiglaw06_TriePlays.calls (k : Nat) (A0 : Option Addr) (c0 : Nat) (l0 : List (S61)) (r : Bool) (w : World) (hr0 : Kd.C k61 w A0 l0.length l0) (hc0 : l0.length ≤ c0) (h : whirligiglaw06_TriePlays.f k l0 = some r) :
    Calls Try.prog 7 #[.slice A0 l0.length c0] w fun e w' => e = .returned (.bool r) ∧ Below w.heap.size w w' := by
  unfold whirligiglaw06_TriePlays.f at h
  split at h
  · rename_i hb
    obtain rfl := Option.some.inj h
    simp only [Bool.and_eq_true, List.all_eq_true, decide_eq_true_eq] at hb
    exact plays_calls w A0 c0 l0 hr0 hc0 (fun x hx => hb x hx)
  · cases h

end Go.Proofs.Ytnihacajjpcjeaa.P

end
section
set_option linter.unusedVariables false
set_option linter.unusedSimpArgs false
namespace Go.Proofs.Ytnihacajjpcjeaa
open Go.ChangeShapes Go.WideShapes Go.Proofs.YtnihacajjpcjeaaW.PrintWords Go.Proofs.YtnihacajjpcjeaaW.PrintLast Go.Proofs.YtnihacajjpcjeaaW.PrintMore

/-- the ints of a kind -/
def okI (k : IntKind) (n : Int) : Prop := (Lit.int k n).wf = true
def okL {α : Type} (B : Nat) (ok : α → Prop) (l : List α) : Prop := l.length * B ≤ 140737488351232 ∧ ∀ x, x ∈ l → ok x
theorem okI_u32 {n : Int} (h : okI .u32 n) : 0 ≤ n ∧ n ≤ 4294967295 := by
  unfold okI Lit.wf at h; simp [IntKind.min, IntKind.max, IntKind.bits, IntKind.signed] at h; omega
/-- A reading of a type. -/
structure RV (P : Program) (t : TypeId) (α : Type) (d : Kd α) where
  ok : α → Prop
  sz : P.cellsOf t = d.sz
  opens : ∀ {H : Type} {enc : TypeId × Value → H} {w : World} {base : Nat} {spare : Nat → Bool} {held : Bool} {fuel : Nat} {cs : List Value} {x : DataW H × List MemPlace},
    DataW.trod enc P w base spare held fuel t cs = some x → (x.1.weights P t).all (· ≤ reachBytes) = true → ∃ a, d.K w a cs ∧ ok a
/-- A reading of a stretch of fields. -/
structure RF (P : Program) (fs : List Field) (off : Nat) (α : Type) where
  K : World → α → List Value → Prop
  ok : α → Prop
  opens : ∀ {H : Type} {enc : TypeId × Value → H} {w : World} {base : Nat} {spare : Nat → Bool} {held : Bool} {fuel : Nat} {cs : List Value} {ds : List (DataW H × List MemPlace)}, off ≤ cs.length →
    (∀ f, f ∈ fs → f.offset + P.cellsOf f.type ≤ cs.length) → (∀ (i : Nat) (f : Field), fs[i]? = some f → ∃ y, ds[i]? = some y ∧ DataW.trod enc P w base spare held fuel f.type ((cs.drop f.offset).take (P.cellsOf f.type)) = some y) →
    (DataW.weightsEach P (fs.map (·.type)) (ds.map (·.1))).all (· ≤ reachBytes) = true →
    (fs = [] → cs.length = off) → (∀ f, fs.getLast? = some f → f.offset + P.cellsOf f.type = cs.length) → ∃ a, K w a (cs.drop off) ∧ ok a

section
variable {P : Program} {t e : TypeId} {α β : Type} {d : Kd α}
def rInt (k : IntKind) (ht : P.underlying t = some (.int k)) (hc : P.cellsOf t = 1) : RV P t Int (Kd.int k) where
  ok := okI k
  sz := hc
  opens := fun h _ => by obtain ⟨n, h1, _, h3⟩ := DataW.trod_int ht h; exact ⟨n, h1, h3⟩
theorem RV.list_of_lt {n : Nat} {p : Nat → α → Prop} (h : ∀ i, i < n → ∃ x, p i x) : ∃ l : List α, l.length = n ∧ ∀ i x, l[i]? = some x → p i x := by
  rcases Nat.eq_zero_or_pos n with rfl | hn
  · exact ⟨[], rfl, fun i x hx => by simp at hx⟩
  · haveI : Inhabited α := ⟨Classical.choose (h 0 hn)⟩
    obtain ⟨f, hf⟩ := Go.Deep.choose_lt h
    refine ⟨(List.range n).map f, by simp, fun i x hx => ?_⟩
    have hi : i < n := by have := (List.getElem?_eq_some_iff.1 hx).1; simpa using this
    have e : ((List.range n).map f)[i]? = some (f i) := by simp [hi]
    rw [e] at hx
    cases hx
    exact hf i hi
theorem add_add_ (a : Addr) (p q : Nat) : (a.add p).add q = a.add (p + q) := by
  unfold Addr.add
  by_cases hp : p = 0
  · subst hp; simp
  · by_cases hq : q = 0
    · subst hq; simp [hp]
    · have : p + q ≠ 0 := by omega
      simp [hp, hq, this, Nat.add_assoc]
theorem weights_elem {H : Type} {P : Program} {e : TypeId} {l : List (DataW H)} {B : Nat} (h : (DataW.weightsAll P e l).all (· ≤ B) = true) {x : DataW H} (hx : x ∈ l) : (x.weights P e).all (· ≤ B) = true := by
  induction l with
  | nil => simp at hx
  | cons y l ih =>
    rw [DataW.weightsAll, List.all_append, Bool.and_eq_true] at h
    rcases List.mem_cons.1 hx with rfl | hx
    · exact h.1
    · exact ih h.2 hx
def rSlice {B : Nat} (ht : P.underlying t = some (.slice e)) (hc : P.cellsOf t = 1) (hB : P.bytesOf e = B) (hp : 0 < d.sz) (hB1 : 1 ≤ B) (V : RV P e α d) : RV P t (List α) (Kd.slice e d) where
  ok := okL B V.ok
  sz := hc
  opens := fun {H enc w base spare held fuel cs x} h hw => by
    rcases Go.Deep.open_slice ht h with ⟨h0, _⟩ | ⟨a, len, cap, m, f, D, Pl, h1, hb, hl, hm, hmm, hx, hcc⟩
    · exact ⟨[], ⟨none, 0, h0, Nat.le_refl _, ⟨rfl, by simp, fun h => absurd h (by simp)⟩⟩, by simp [okL]⟩
    · have hlm : len ≤ m := by rw [hmm]; split <;> omega
      have hw' := hw
      rw [hx] at hw'
      simp only [DataW.weights, ht, List.all_cons, List.length_map, List.length_range, Bool.and_eq_true, List.all_append] at hw'
      obtain ⟨w1, w2, _⟩ := hw'
      have w1' : (len + (m - len)) * B ≤ 140737488351232 := by rw [← hB]; exact of_decide_eq_true w1
      have one : ∀ i, i < len → ∃ x, ∃ cs', cs'.length = d.sz ∧ (∀ j u, cs'[j]? = some u → w.cell? (a.add (i * d.sz + j)) = some u) ∧ d.K w x cs' ∧ V.ok x := by
        intro i hi
        obtain ⟨cs', k1, k2⟩ := hcc i (by omega)
        obtain ⟨_, hlen, hcell⟩ := World.cells?_some k1
        have hwi := weights_elem w2 (List.mem_map.2 ⟨i, List.mem_range.2 hi, rfl⟩)
        obtain ⟨y, hy, hok⟩ := V.opens k2 hwi
        rw [V.sz] at hlen hcell
        refine ⟨y, cs', hlen, fun j u hj => ?_, hy, hok⟩
        have hj' : j < d.sz := by have := (List.getElem?_eq_some_iff.1 hj).1; omega
        have := hcell j hj'
        rw [add_add_, hj] at this
        exact this
      obtain ⟨l, hl', hall⟩ := RV.list_of_lt one
      have hlb : len ≤ 9223372036854775807 := by
        have : len * 1 ≤ (len + (m - len)) * B := Nat.mul_le_mul (by omega) hB1
        omega
      refine ⟨l, ⟨some a, cap, by rw [h1, hl'], by omega, ⟨rfl, by omega, fun _ => ⟨a, rfl, fun j p hj => ?_⟩⟩⟩, ?_, ?_⟩
      · obtain ⟨cs', q1, q2, q3, _⟩ := hall j p hj
        exact ⟨cs', q1, q3, q2⟩
      · rw [hl']
        exact Nat.le_trans (Nat.mul_le_mul_right _ (by omega)) w1'
      · intro x hx
        obtain ⟨i, hi⟩ := List.getElem?_of_mem hx
        obtain ⟨_, _, _, _, q⟩ := hall i x hi
        exact q
def fNil (off : Nat) : RF P [] off Unit where
  K := fun _ _ cs => cs = []
  ok := fun _ => True
  opens := fun _ _ _ _ h0 _ => ⟨(), by have := h0 rfl; simp [← this], trivial⟩
def fCons (f : Field) {fs : List Field} {off n : Nat} (ho : f.offset = off) (hn : P.cellsOf f.type = n) {d : Kd α} (V : RV P f.type α d) (F : RF P fs (off + n) β) : RF P (f :: fs) off (α × β) where
  K := fun w x cs => ∃ c c', cs = c ++ c' ∧ d.K w x.1 c ∧ F.K w x.2 c'
  ok := fun x => V.ok x.1 ∧ F.ok x.2
  opens := fun {H enc w base spare held fuel cs ds} hoff hle hy hw h0 hlast => by
    obtain ⟨y, hy1, hy0⟩ := hy 0 f rfl
    obtain ⟨ds, rfl⟩ : ∃ l, ds = y :: l := by
      cases ds with
      | nil => simp at hy1
      | cons z l => simp at hy1; subst hy1; exact ⟨l, rfl⟩
    rw [List.map_cons, List.map_cons, DataW.weightsEach, List.all_append, Bool.and_eq_true] at hw
    obtain ⟨a, ha, hka⟩ := V.opens hy0 hw.1
    have hl0 := hle f (by simp)
    rw [ho, hn] at hl0
    obtain ⟨b, hb, hkb⟩ := F.opens (cs := cs) (ds := ds) hl0 (fun g hg => hle g (by simp [hg])) (fun i g hg => hy (i + 1) g hg) hw.2 (fun h => by subst h; have := hlast f (by simp); rw [ho, hn] at this; exact this.symm)
      (fun g hg => hlast g (by cases fs with | nil => simp at hg | cons z zs => rw [List.getLast?_cons_cons]; exact hg))
    refine ⟨(a, b), ⟨(cs.drop off).take n, cs.drop (off + n), ?_, ?_, hb⟩, hka, hkb⟩
    · rw [← List.drop_drop, List.take_append_drop]
    · rw [ho, hn] at ha; exact ha
/-- the struct's cells end with its last field's -/
def fitsB (P : Program) (t : TypeId) (fs : List Field) : Bool := fs.all (fun f => decide (f.offset + P.cellsOf f.type ≤ P.cellsOf t)) && (match fs.getLast? with | some f => f.offset + P.cellsOf f.type == P.cellsOf t | none => P.cellsOf t == 0)
def rStruct {fs : Array Field} (ht : P.underlying t = some (.struct fs)) (hf : fitsB P t fs.toList = true) {d : Kd β} (hc : P.cellsOf t = d.sz) (F : RF P fs.toList 0 α) (f : α → β) (hK : ∀ w x cs, F.K w x cs → d.K w (f x) cs) (ok : β → Prop) (hok : ∀ x, F.ok x → ok (f x)) : RV P t β d where
  ok := ok
  sz := hc
  opens := fun {H enc w base spare held fuel cs x} h hw => by
    obtain ⟨xs, n, _, rfl, hl, hxl, hx⟩ := DataW.trod_struct ht h
    unfold fitsB at hf
    rw [Bool.and_eq_true] at hf
    obtain ⟨f1, f2⟩ := hf
    simp only [DataW.weights, ht] at hw
    obtain ⟨a, ha, hka⟩ := F.opens (enc := enc) (w := w) (base := base) (spare := spare) (held := held) (fuel := n) (cs := cs) (ds := xs) (Nat.zero_le _)
      (fun f hf => by rw [hl]; exact of_decide_eq_true (List.all_eq_true.1 f1 f hf))
      (fun i f hi => by
        have hi' : fs[i]? = some f := by rw [← Array.getElem?_toList]; exact hi
        have hlt : i < fs.size := by
          have := (List.getElem?_eq_some_iff.1 hi).1
          simpa using this
        have z := hx i f hi'
        rw [z]
        exact ⟨_, List.getElem?_eq_getElem (by omega), List.getElem?_eq_getElem (by omega)⟩)
      hw
      (fun h0 => by rw [h0] at f2; simp at f2; rw [hl]; exact f2)
      (fun f hf => by rw [hf] at f2; simp at f2; rw [hl]; exact f2)
    exact ⟨f a, hK _ _ _ (by simpa using ha), hok a hka⟩
end
end Go.Proofs.Ytnihacajjpcjeaa

end
section
namespace Go.Proofs.Ytnihacajjpcjeaa.P
open Go.Proofs.YtnihacajjpcjeaaW.PrintWords Go.Proofs.YtnihacajjpcjeaaW.PrintLast Go.Proofs.YtnihacajjpcjeaaW.PrintMore
set_option linter.unusedVariables false
def r3 : RV Try.prog 3 Int (Kd.int .i64) := rInt .i64 Try.underlying3 (by kernel_rfl)
def r32 : RV Try.prog 32 Int (Kd.int .u32) := rInt .u32 Try.underlying32 (by kernel_rfl)
def ok34 (x : S34) : Prop := (okI .u32) x.f0 ∧ (okI .i64) x.f1
def r34 : RV Try.prog 34 S34 k34 := rStruct Try.underlying34 (by kernel_rfl) (by kernel_rfl) (fCons (n := 1) _ rfl (by kernel_rfl) r32 (fCons (n := 1) _ rfl (by kernel_rfl) r3 (fNil _))) (fun x => ⟨x.1, x.2.1⟩) (by rintro w x cs ⟨c0, _, rfl, h0, c1, _, rfl, h1, rfl⟩; exact ⟨c0, _, rfl, h0, (by rw [List.append_nil]; exact h1)⟩) ok34 (fun x h => ⟨h.1, h.2.1⟩)
def ok61 (x : S61) : Prop := (okI .i64) x.f0 ∧ (okI .i64) x.f1 ∧ (ok34) x.f2 ∧ (okI .u32) x.f3
def r61 : RV Try.prog 61 S61 k61 := rStruct Try.underlying61 (by kernel_rfl) (by kernel_rfl) (fCons (n := 1) _ rfl (by kernel_rfl) r3 (fCons (n := 1) _ rfl (by kernel_rfl) r3 (fCons (n := 2) _ rfl (by kernel_rfl) r34 (fCons (n := 1) _ rfl (by kernel_rfl) r32 (fNil _))))) (fun x => ⟨x.1, x.2.1, x.2.2.1, x.2.2.2.1⟩) (by rintro w x cs ⟨c0, _, rfl, h0, c1, _, rfl, h1, c2, _, rfl, h2, c3, _, rfl, h3, rfl⟩; exact ⟨c0, _, rfl, h0, ⟨c1, _, rfl, h1, ⟨c2, _, rfl, h2, (by rw [List.append_nil]; exact h3)⟩⟩⟩) ok61 (fun x h => ⟨h.1, h.2.1, h.2.2.1, h.2.2.2.1⟩)
def r22 : RV Try.prog 22 (List (S61)) (Kd.slice 61 k61) := rSlice (B := 40) Try.underlying22 (by kernel_rfl) (by kernel_rfl) (by decide) (by decide) r61
end Go.Proofs.Ytnihacajjpcjeaa.P

end
section
namespace Go.Proofs.Ytnihacajjpcjeaa.Pure
open Go.RowKit Go.Proofs.Ytnihacajjpcjeaa.P Go.Proofs.YtnihacajjpcjeaaW.PrintWords Go.Proofs.YtnihacajjpcjeaaW.PrintLast Go.Proofs.YtnihacajjpcjeaaW.PrintMore
set_option linter.unusedVariables false

theorem TriePlays (x0 : List (S61)) (ok_0 : (okL 40 (ok61)) x0) : ∃ k, Go.Proofs.Ytnihacajjpcjeaa.P.whirligiglaw06_TriePlays.f k x0 = some true := by
  have h : whirligiglaw06_TriePlays.f 0 x0 = some true := by
    unfold whirligiglaw06_TriePlays.f
    refine if_pos ?_
    simp only [Bool.and_eq_true, List.all_eq_true, decide_eq_true_eq]
    exact fun x hx => ⟨okI_u32 (ok_0.2 x hx).2.2.1.1, okI_u32 (ok_0.2 x hx).2.2.2⟩
  exact ⟨0, h⟩
end Go.Proofs.Ytnihacajjpcjeaa.Pure

end
