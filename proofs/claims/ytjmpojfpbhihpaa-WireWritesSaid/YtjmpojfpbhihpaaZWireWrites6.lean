/- Part of the proof of RowWireWrites: what it asks of functions, words and plain facts (put together by this session's own program, wip/tools/shake.py). -/
import Derived.Test.YtjmpojfpbhihpaaZWireWrites0
import Derived.Test.YtjmpojfpbhihpaaZWireWrites1
import Derived.Test.YtjmpojfpbhihpaaZWireWrites2
import Derived.Test.YtjmpojfpbhihpaaZWireWrites3
import Derived.Test.YtjmpojfpbhihpaaZWireWrites4
import Derived.Test.YtjmpojfpbhihpaaZWireWrites5
import Derived.ArgAppend
import Derived.BigRegion
import Derived.Deep.Slices
import Derived.ChangeArms
import Derived.OpenShut
import Derived.SizedLaws
import Derived.KernelRfl
section
namespace Go.Proofs.Ytjmpojfpbhihpaa
open Go.RowKit Go.Proofs.Ytjmpojfpbhihpaa.P Go.Proofs.YtjmpojfpbhihpaaW.PrintWords Go.Proofs.YtjmpojfpbhihpaaW.PrintLast Go.Proofs.YtjmpojfpbhihpaaW.PrintMore
set_option linter.unusedVariables false
set_option linter.unusedSimpArgs false

set_option maxHeartbeats 8000000 in
set_option maxRecDepth 100000 in

theorem decode_given (w X : World) (tm : Array Value) (gu ge : Nat) (vW vT : Value) (a : S41) (x : Int) (hne : gu ≠ ge) (hgu : w.heap.size ≤ gu) (hge : w.heap.size ≤ ge) (hM : UpdM X gu w.heap.size vW vT a) (he : X.heap[ge]? = some (.cells #[.int .i64 x] 27 (0, 0))) (hb : Below w.heap.size w X)
    (h2 : tm[2]? = some (.pointer (some ⟨gu, 0, none⟩))) (h3 : tm[3]? = some (.pointer (some ⟨ge, 0, none⟩))) (post : Ending → World → Prop)
    (hp : ∀ w', Below w.heap.size w w' → post (.returned (.tuple #[noneU, .int .i64 4])) w') :
    bodyPostD Try.prog Try.f20 post (Exit.panic [wrongP]) ⟨tm, [{ target := .fn (.func 41) #[.pointer (some ⟨gu, 0, none⟩), .pointer (some ⟨ge, 0, none⟩)], args := #[] }]⟩ X := by
  obtain ⟨A3, A4, A6, n3, n4, n6, c3, c4, c6, g1, _⟩ := hM.lies; (refine leaves_cons (f := 41) (args := #[.pointer (some ⟨gu, 0, none⟩), .pointer (some ⟨ge, 0, none⟩)]) (by simp) (by simp [go_sem]) ?_); refine (given_panicking gu ge _ _ _ _ _ _ _ _ _ x [] X hne g1 he).mono ?_; rintro e u' w' ⟨rfl, rfl, k1, k2, k3, k4, k5, k6, k7⟩; (have hbw : Below w.heap.size w w' := ⟨k3.trans hb.os, k4.trans hb.tape, k5.trans hb.output, Nat.le_trans hb.size k6, fun b hbb => (k7 b (by have := hb.size; omega) (by omega) (by omega)).trans (hb.block b hbb)⟩); have hpp := hp w' hbw; have c0 := blk_cell k1 0; have c1 := blk_cell k1 1; have c2 := blk_cell k1 2; have c3 := blk_cell k1 3; have c4 := blk_cell k1 4; have c5 := blk_cell k1 5; have c6 := blk_cell k1 6; have c7 := blk_cell k1 7; have c8 := blk_cell k1 8; have c9 := blk_cell k2 0
  simp at c0 c1 c2 c3 c4 c5 c6 c7 c8 c9
  simp [Leaves, settle, results, Try.results20, go_sem, wrongP, h2, h3, c0, c1, c2, c3, c4, c5, c6, c7, c8, c9]
  exact hpp
theorem UpdM.setW {w : World} {gu s : Nat} {vW vT : Value} {a : S41} (h : UpdM w gu s vW vT a) (v : Value) :
    UpdM (w.setCell ⟨gu, 0, none⟩ v) gu s v vT a ∧ (w.cell? ⟨gu, 0, none⟩ = some vW ∧ w.frozen? ⟨gu, 0, none⟩ = false) ∧ SetB gu w (w.setCell ⟨gu, 0, none⟩ v) ∧ ∃ cells, w.heap[gu]? = some (.cells cells 47 (0, 0)) := by
  obtain ⟨A3, A4, A6, n3, n4, n6, c3, c4, c6, g1, g2, g3, g4, g5, g6, g7⟩ := h.lies; (have hk : ∀ b, b < w.heap.size → b ≠ gu → (w.setCell ⟨gu, 0, none⟩ v).heap[b]? = w.heap[b]? := fun b _ hb => Below.heap_setCell w ⟨gu, 0, none⟩ _ b hb); (exact ⟨⟨A3, A4, A6, n3, n4, n6, c3, c4, c6, blk_set g1 0 _, g2, g3, g4, R_keep2 g5 g1 (by decide) hk, R_keep2 g6 g1 (by decide) hk, R_keep2 g7 g1 (by decide) hk⟩, ⟨blk_cell g1 0, blk_frozen g1 0⟩, SetB.of _ _ _ _, _, g1⟩)
theorem UpdM.setT {w : World} {gu s : Nat} {vW vT : Value} {a : S41} (h : UpdM w gu s vW vT a) (v : Value) :
    UpdM (w.setCell ⟨gu, 1, none⟩ v) gu s vW v a ∧ (w.cell? ⟨gu, 1, none⟩ = some vT ∧ w.frozen? ⟨gu, 1, none⟩ = false) ∧ SetB gu w (w.setCell ⟨gu, 1, none⟩ v) ∧ ∃ cells, w.heap[gu]? = some (.cells cells 47 (0, 0)) := by
  obtain ⟨A3, A4, A6, n3, n4, n6, c3, c4, c6, g1, g2, g3, g4, g5, g6, g7⟩ := h.lies; (have hk : ∀ b, b < w.heap.size → b ≠ gu → (w.setCell ⟨gu, 1, none⟩ v).heap[b]? = w.heap[b]? := fun b _ hb => Below.heap_setCell w ⟨gu, 1, none⟩ _ b hb); (exact ⟨⟨A3, A4, A6, n3, n4, n6, c3, c4, c6, blk_set g1 1 _, g2, g3, g4, R_keep2 g5 g1 (by decide) hk, R_keep2 g6 g1 (by decide) hk, R_keep2 g7 g1 (by decide) hk⟩, ⟨blk_cell g1 1, blk_frozen g1 1⟩, SetB.of _ _ _ _, _, g1⟩)
theorem UpdM.grown {w w' : World} {gu s : Nat} {vW vT : Value} {a : S41} (h : UpdM w gu s vW vT a) (hb : Below w.heap.size w w') : UpdM w' gu s vW vT a := by
  obtain ⟨A3, A4, A6, n3, n4, n6, c3, c4, c6, g1, g2, g3, g4, g5, g6, g7⟩ := h.lies; exact ⟨A3, A4, A6, n3, n4, n6, c3, c4, c6, (hb.block gu (Array.getElem?_eq_some_iff.1 g1).1).trans g1, g2, g3, g4, Kd.R_below g5 hb, Kd.R_below g6 hb, Kd.R_below g7 hb⟩
theorem set_self {w : World} {g : Nat} {t : TypeId} {cs : Array Value} (h : w.heap[g]? = some (.cells cs t (0, 0))) (i : Nat) (v : Value) (hi : cs[i]? = some v) : w.setCell ⟨g, i, none⟩ v = w := by
  have hcs : cs.setIfInBounds i v = cs := by
    apply Array.ext_getElem?
    intro j; rw [Array.getElem?_setIfInBounds]
    split
    · rename_i e
      subst e; rw [hi]; have := (Array.getElem?_eq_some_iff.1 hi).1
      simp [this]
    · rfl
  have hh : (w.setCell ⟨g, i, none⟩ v).heap = w.heap := by
    apply Array.ext_getElem?
    intro j
    by_cases hj : j = g
    · subst hj
      rw [blk_set h i v, h, hcs]
    · exact Below.heap_setCell w ⟨g, i, none⟩ v j hj
  have e : w.setCell ⟨g, i, none⟩ v = { w with heap := (w.setCell ⟨g, i, none⟩ v).heap } := rfl; rw [e, hh]

theorem R_kt {s ga gu : Nat} {X w8 : World} {v : Value} {xs : List S25} (h : Kd.R k25 25 X s (fun _ => True) v xs) (hk : Kt s ga gu X w8) (h1 : ∃ c, X.heap[ga]? = some (.cells c 79 (0, 0))) (h2 : ∃ c, X.heap[gu]? = some (.cells c 47 (0, 0))) : Kd.R k25 25 w8 s (fun _ => True) v xs :=
  Kd.R_mono (Kd.R_step (Kd.R_bound h) (fun k ho hlt => by
    obtain ⟨_, _, _, q, hq, cells, hc⟩ := ho; (have hqe : q = 25 := by simpa [show (k25).E = [] from rfl] using hq); subst hqe; obtain ⟨c1, e1⟩ := h1; obtain ⟨c2, e2⟩ := h2; (refine hk.block k hlt (fun he => ?_) (fun he => ?_) (fun c hcc => ?_))
    · rw [he, e1] at hc; simp at hc
    · rw [he, e2] at hc; simp at hc
    · rw [hcc] at hc; simp at hc)) (fun _ _ => trivial)
theorem Rdr.kt {s ga gu g m : Nat} {w0 X w8 : World} {B : List Int} (H : Rdr w0 X g B m) (hk : Kt s ga gu X w8) (hne : g ≠ ga) (hnu : g ≠ gu) (hs : w0.heap.size ≤ s) : Rdr w0 w8 g B m := by
  obtain ⟨A, c, h1, h2, h3⟩ := H.lies; (exact ⟨⟨A, c, (hk.block g (Array.getElem?_eq_some_iff.1 h1).1 hne hnu (fun c hc => by rw [h1] at hc; simp at hc)).trans h1, h2, h3⟩, H.base, H.below.trans ⟨hk.below.os, hk.below.tape, hk.below.output, hk.below.size, fun i hi => hk.below.block i (by omega)⟩, H.le, H.u8, H.len⟩)
theorem son_inj {a b : List Int} (ha : U8 a) (hb : U8 b) (h : (strOfNums a).toList = (strOfNums b).toList) : a = b := by
  rw [ByteArray.toList_eq, ByteArray.toList_eq, strOfNums_data, strOfNums_data] at h
  have key : ∀ l : List Int, U8 l → (l.map fun n => UInt8.ofNat n.toNat).map (fun x => (x.toNat : Int)) = l := by
    intro l hl; rw [List.map_map]; (refine (List.map_congr_left (fun x hx => ?_)).trans (List.map_id l)); have := hl x hx
    show (((UInt8.ofNat x.toNat).toNat : Nat) : Int) = x
    rw [UInt8.toNat_ofNat']; omega
  rw [← key a ha, ← key b hb, h]
theorem encB_u8 {u : S47} (h : updB u = true) : U8 (encB u) := by
  have hu' := h
  unfold updB at hu'
  simp only [Bool.and_eq_true] at hu'; obtain ⟨q0, q1, _, q3⟩ := hu'
  unfold encB wire_framed.hd datB
  refine U8.app (U8.app (U8.app (fun x hx => ?_) (fun x hx => ?_)) (fun x hx => ?_)) (U8.app (U8.app (U8.app (U8.app (beB_u8 _ _) (preB_u8 _ (risesB_all q0).2)) (beB_u8 _ _)) ?_) (preB_u8 _ (risesB_all q1).2))
  · have := List.eq_of_mem_replicate hx; omega
  · simp only [List.mem_cons, List.not_mem_nil, or_false] at hx
    rcases hx with rfl | rfl <;> exact u8m _
  · rw [List.mem_singleton.1 hx]; omega
  · split
    · exact U8.nl
    · exact atB_u8 _ _ _ _ _ _ _

def NoDec (B : List Int) : Prop := ∀ u : S47, decV B = some u → ¬ (updB u = true ∧ encB u = B)
theorem NoDec.of {B : List Int} (h : decV B = none) : NoDec B := fun u hu => by rw [h] at hu; cases hu

def UpdV (w : World) (u : S47) (v : Value) : Prop := ∃ (A0 A1 A3 A4 A6 : Option Addr) (c0 c1 c3 c4 c6 : Nat), v = .agg #[.slice A0 u.f0.length c0, .slice A1 u.f1.length c1, .int .i64 u.f2.f0, .int .i64 u.f2.f1, .int .i64 u.f2.f2, .slice A3 u.f2.f3.length c3, .slice A4 u.f2.f4.length c4, .int .i64 u.f2.f5, .slice A6 u.f2.f6.length c6] ∧
  Kd.C k25 w A0 u.f0.length u.f0 ∧ u.f0.length ≤ c0 ∧ Kd.C k25 w A1 u.f1.length u.f1 ∧ u.f1.length ≤ c1 ∧ Kd.C (Kd.int .i64) w A3 u.f2.f3.length u.f2.f3 ∧ u.f2.f3.length ≤ c3 ∧ Kd.C k102 w A4 u.f2.f4.length u.f2.f4 ∧ u.f2.f4.length ≤ c4 ∧ Kd.C (Kd.int .i64) w A6 u.f2.f6.length u.f2.f6 ∧ u.f2.f6.length ≤ c6

def DecE (w : World) (B : List Int) (e : Ending) (w' : World) : Prop :=
  Below w.heap.size w w' ∧ ((NoDec B ∧ e = .returned (.tuple #[noneU, .int .i64 4])) ∨ ∃ (u : S47) (v : Value),
    decV B = some u ∧ FewU u 100000 ∧ updB u = true ∧ encB u = B ∧ UpdV w' u v ∧ e = .returned (.tuple #[v, .int .i64 0]))
set_option maxHeartbeats 8000000 in
set_option maxRecDepth 100000 in
theorem decode_long (w : World) (A : Option Addr) (c : Nat) (B : List Int) (hC : Kd.C (Kd.int .u8) w A B.length B) (hc : B.length ≤ c) (hu : U8 B) (h19 : 19 ≤ B.length) (hB : B.length ≤ 100000) :
    Calls Try.prog 20 #[.slice A B.length c] w fun e w' => DecE w B e w' := by
  (have hmf : ∀ (fn : Fn) (first cap : Array Value) (w : World), (Instr.makeFunc fn first cap).run Try.prog w = .ok (.func fn first cap) w := fun _ _ _ _ => rfl); (have hd : decide ((B.length : Int) < 19) = false := decide_eq_false (by omega)); obtain ⟨W, hW⟩ : ∃ W, W = ((w.alloc (.cells #[.slice none 0 0, .slice none 0 0, .int .i64 0, .int .i64 0, .int .i64 0, .slice none 0 0, .slice none 0 0, .int .i64 0, .slice none 0 0] 47)).alloc (.cells #[.int .i64 0] 27)).alloc (.cells #[.slice A B.length c, .int .i64 19] 79) := ⟨_, rfl⟩; obtain ⟨g, hg⟩ : ∃ g, g = w.heap.size + 1 + 1 := ⟨_, rfl⟩; obtain ⟨ge, hge⟩ : ∃ g, g = w.heap.size + 1 := ⟨_, rfl⟩; obtain ⟨gu, hgu⟩ : ∃ g, g = w.heap.size := ⟨_, rfl⟩; (have hb1 : Below w.heap.size w W := by rw [hW]; exact below_allocs (below_allocs (below_allocs (Below.refl _ w) (Nat.le_refl _) _) (by simp) _) (by simp; omega) _); (have k0 : W.heap[gu]? = some (.cells #[.slice none 0 0, .slice none 0 0, .int .i64 0, .int .i64 0, .int .i64 0, .slice none 0 0, .slice none 0 0, .int .i64 0, .slice none 0 0] 47 (0, 0)) := by rw [hW, hgu]; exact blk_alloc (blk_alloc (heap_alloc_new w _) _) _); (have k1 : W.heap[ge]? = some (.cells #[.int .i64 0] 27 (0, 0)) := by rw [hW, hge]; exact blk_alloc (by have h := heap_alloc_new (w.alloc (.cells #[.slice none 0 0, .slice none 0 0, .int .i64 0, .int .i64 0, .int .i64 0, .slice none 0 0, .slice none 0 0, .int .i64 0, .slice none 0 0] 47)) (.cells #[.int .i64 0] 27); simpa using h) _)
  have k2 : W.heap[g]? = some (.cells #[.slice A B.length c, .int .i64 ((19 : Nat) : Int)] 79 (0, 0)) := by
    rw [hW, hg]; have h := heap_alloc_new ((w.alloc (.cells #[.slice none 0 0, .slice none 0 0, .int .i64 0, .int .i64 0, .int .i64 0, .slice none 0 0, .slice none 0 0, .int .i64 0, .slice none 0 0] 47)).alloc (.cells #[.int .i64 0] 27)) (.cells #[.slice A B.length c, .int .i64 19] 79)
    simpa using h
  (have HD0 : Hid (Rdr w W g B 19) := mkHid ⟨⟨A, c, k2, hC, hc⟩, by omega, hb1, h19, hu, by omega⟩); have HM0 : Hid (UpdM W gu w.heap.size (.slice none 0 0) (.slice none 0 0) z41) := mkHid ⟨none, none, none, 0, 0, 0, 0, 0, 0, k0, rfl, rfl, rfl, Kd.R_nil _ _ _ _ _, Kd.R_nil _ _ _ _ _, Kd.R_nil _ _ _ _ _⟩; have HE0 := mkHid k1; have HB0 := mkHid hb1; (have hgug : gu ≠ g := by omega); (have hgeg : ge ≠ g := by omega); (have hguge : gu ≠ ge := by omega); (have hsu : w.heap.size ≤ gu := by omega); (have hse : w.heap.size ≤ ge := by omega); (have hsg : w.heap.size ≤ g := by omega); have HCB := mkHid hC; have HCC := mkHid hc; clear k0 k1 k2 hb1 hC hc; (have hn1 := mkHid (number_calls w W g B 19 2 (by decide) HD0.out))
  have HG4 : Hid (∀ (tm : Array Value) (X : World) (vW vT : Value) (a : S41) (x : Int), UpdM X gu w.heap.size vW vT a → X.heap[ge]? = some (.cells #[.int .i64 x] 27 (0, 0)) → Below w.heap.size w X → tm[2]? = some (.pointer (some ⟨gu, 0, none⟩)) → tm[3]? = some (.pointer (some ⟨ge, 0, none⟩)) → NoDec B →
      bodyPostD Try.prog Try.f20 (fun e w' => DecE w B e w') (Exit.panic [wrongP]) ⟨tm, [{ target := .fn (.func 41) #[.pointer (some ⟨gu, 0, none⟩), .pointer (some ⟨ge, 0, none⟩)], args := #[] }]⟩ X) := mkHid (fun tm X vW vT a x hM he hb h2 h3 hno => decode_given w X tm gu ge vW vT a x hguge hsu hse hM he hb h2 h3 _ (fun w' hw => ⟨hw, .inl ⟨hno, rfl⟩⟩))
  go_enter_defers Try.func20, Try.ntmps20
  go_wp2_with fail
  rw [← hW, ← hg, ← hge, ← hgu]; clear hW hg hge hgu; refine hn1.out.mono ?_; rintro e w1 ⟨he, hk⟩; obtain ⟨cl, hcl⟩ := HD0.out.blk; have HM1 := mkHid (HM0.out.kg hk hcl hgug); have HE1 : Hid (w1.heap[ge]? = some (.cells #[.int .i64 0] 27 (0, 0))) := mkHid ((hk.block ge (Array.getElem?_eq_some_iff.1 HE0.out).1 hgeg).trans HE0.out); have HB1 : Hid (Below w.heap.size w w1) := mkHid (hk.below HB0.out hsg); clear hk hcl
  unfold NumE at he
  by_cases h1 : 19 + 2 ≤ B.length
  case neg =>
    rw [if_neg h1] at he; subst he; exact HG4.out _ _ _ _ _ _ HM1.out HE1.out HB1.out rfl rfl (NoDec.of (decV_no1 B h1))
  rw [if_pos h1] at he; obtain ⟨rfl, hD1⟩ := he; obtain ⟨nx, hnx⟩ : ∃ x, x = beV ((B.drop 19).take 2) := ⟨_, rfl⟩; rw [← hnx]; (have hnr := beV_rng 2 ((B.drop 19).take 2) (by rw [List.length_take, List.length_drop]; omega) ((hu.drop _).take _)); rw [← hnx] at hnr; (obtain ⟨n, rfl⟩ : ∃ n : Nat, nx = (n : Int) := ⟨nx.toNat, by omega⟩); (have hn6 : n < 65536 := by have := hnr.2; simp at this; omega); have HNX := mkHid hnx; have HD1 := mkHid hD1; (have hpt := mkHid (part_calls w w1 g B 21 n (by omega) hD1)); clear hnx hnr hD1 h1
  go_wp2_with fail
  refine hpt.out.mono ?_; rintro e w2 ⟨he, hk⟩; obtain ⟨cl, hcl⟩ := HD1.out.blk; have HM2 := mkHid (HM1.out.kg hk hcl hgug); have HE2 : Hid (w2.heap[ge]? = some (.cells #[.int .i64 0] 27 (0, 0))) := mkHid ((hk.block ge (Array.getElem?_eq_some_iff.1 HE1.out).1 hgeg).trans HE1.out); have HB2 : Hid (Below w.heap.size w w2) := mkHid (hk.below HB1.out hsg); clear hk hcl
  unfold PartE at he
  by_cases h2 : 21 + n ≤ B.length
  case neg =>
    rw [if_neg h2] at he; subst he; (exact HG4.out _ _ _ _ _ _ HM2.out HE2.out HB2.out rfl rfl (NoDec.of (decV_no2 B n HNX.out (.inl (by omega)))))
  rw [if_pos h2] at he; obtain ⟨gp, hgp, rfl, hP, hD2⟩ := he; obtain ⟨P, hPP⟩ : ∃ P, P = (B.drop 21).take n := ⟨_, rfl⟩; rw [← hPP] at hP; (have hPL : P.length = n := by rw [hPP, List.length_take, List.length_drop]; omega); have HPP := mkHid hPP; have HD2 := mkHid hD2; have HP := mkHid hP; (have hpf := mkHid (prefixes_calls w w2 gp P 0 n (by omega) (by omega) hP)); (have hgugp : gu ≠ gp := by have := (Array.getElem?_eq_some_iff.1 HM1.out.lies.choose_spec.choose_spec.choose_spec.choose_spec.choose_spec.choose_spec.choose_spec.choose_spec.choose_spec.1).1; omega); (have hgegp : ge ≠ gp := by have := (Array.getElem?_eq_some_iff.1 HE1.out).1; omega); (have hggp : g ≠ gp := by have := HD1.out.lt; omega); (have hsgp : w.heap.size ≤ gp := by have := HB1.out.size; omega); clear hPP hD2 hP hgp
  go_wp2_with fail
  refine hpf.out.mono ?_; rintro e w3 ⟨he, hk⟩; obtain ⟨cl, hcl⟩ := HP.out.blk; have HM3 := mkHid (HM2.out.kg hk hcl hgugp); have HE3 : Hid (w3.heap[ge]? = some (.cells #[.int .i64 0] 27 (0, 0))) := mkHid ((hk.block ge (Array.getElem?_eq_some_iff.1 HE2.out).1 hgegp).trans HE2.out); have HB3 : Hid (Below w.heap.size w w3) := mkHid (hk.below HB2.out hsgp); have HD3 : Hid (Rdr w w3 g B (21 + n)) := mkHid (HD2.out.kg hk hsgp hggp); clear hk hcl
  rcases he with ⟨hv, rfl⟩ | ⟨xs, A0, n0, c0, hv, hxs, hn0, rfl, hR0, _⟩
  · exact HG4.out _ _ _ _ _ _ HM3.out HE3.out HB3.out rfl rfl (NoDec.of (decV_no2 B n HNX.out (.inr (by rw [← HPP.out]; exact hv))))
  have hR0 := Kd.R_lower hR0 HB2.out.size; have hst := HM3.out.setW (.slice A0 n0 c0); obtain ⟨z1, z2⟩ := hst.2.1; obtain ⟨cl, hcl⟩ := hst.2.2.2; obtain ⟨W4, hW4⟩ : ∃ W4, W4 = w3.setCell ⟨gu, 0, none⟩ (.slice A0 n0 c0) := ⟨_, rfl⟩; have HM4 := mkHid hst.1; (have HE4 : Hid ((w3.setCell ⟨gu, 0, none⟩ (.slice A0 n0 c0)).heap[ge]? = some (.cells #[.int .i64 0] 27 (0, 0))) := mkHid ((hst.2.2.1.block ge (fun h => hguge h.symm)).trans HE3.out)); have HB4 : Hid (Below w.heap.size w (w3.setCell ⟨gu, 0, none⟩ (.slice A0 n0 c0))) := mkHid (below_set HB3.out hsu _ _); (have HD4 : Hid (Rdr w (w3.setCell ⟨gu, 0, none⟩ (.slice A0 n0 c0)) g B (21 + n)) := mkHid (hst.2.2.1.rdr HD3.out (fun h => hgug h.symm) hsu)); (have HR4 : Hid (Kd.R k25 25 (w3.setCell ⟨gu, 0, none⟩ (.slice A0 n0 c0)) w.heap.size (fun _ => True) (.slice A0 n0 c0) xs) := mkHid (R_keep2 hR0 hcl (by decide) (fun b _ hb => hst.2.2.1.block b hb))); have HV := mkHid hv; have HXS := mkHid hxs; have HN0 := mkHid hn0; rw [← hW4] at HM4 HE4 HB4 HD4 HR4; have HW4 := mkHid hW4; clear hst hcl hv hxs hn0 hR0 hW4; (have hn2 := mkHid (number_calls w W4 g B (21 + n) 2 (by decide) HD4.out))
  go_wp2_with fail
  rw [← HW4.out]; clear HW4 z1 z2; refine hn2.out.mono ?_; rintro e w5 ⟨he, hk⟩; obtain ⟨cl, hcl⟩ := HD4.out.blk; have HM5 := mkHid (HM4.out.kg hk hcl hgug); have HE5 : Hid (w5.heap[ge]? = some (.cells #[.int .i64 0] 27 (0, 0))) := mkHid ((hk.block ge (Array.getElem?_eq_some_iff.1 HE4.out).1 hgeg).trans HE4.out); have HB5 : Hid (Below w.heap.size w w5) := mkHid (hk.below HB4.out hsg); (have HR5 : Hid (Kd.R k25 25 w5 w.heap.size (fun _ => True) (.slice A0 n0 c0) xs) := mkHid (R_keep2 HR4.out hcl (by decide) hk.block)); clear hk hcl
  unfold NumE at he
  by_cases h3 : 21 + n + 2 ≤ B.length
  case neg =>
    rw [if_neg h3] at he; subst he; exact HG4.out _ _ _ _ _ _ HM5.out HE5.out HB5.out rfl rfl (NoDec.of (decV_no2 B n HNX.out (.inl h3)))
  rw [if_pos h3] at he; obtain ⟨rfl, hD5⟩ := he; obtain ⟨mx, hmx⟩ : ∃ x, x = beV ((B.drop (21 + n)).take 2) := ⟨_, rfl⟩; rw [← hmx]; (have hmr := beV_rng 2 ((B.drop (21 + n)).take 2) (by rw [List.length_take, List.length_drop]; omega) ((hu.drop _).take _)); rw [← hmx] at hmr; (obtain ⟨m, rfl⟩ : ∃ m : Nat, mx = (m : Int) := ⟨mx.toNat, by omega⟩); (have hm6 : m < 65536 := by have := hmr.2; simp at this; omega); have HMM := mkHid hmx; have HD5 := mkHid hD5; (have hpt := mkHid (part_calls w w5 g B (21 + n + 2) m (by omega) hD5)); clear hmx hmr hD5 h3
  go_wp2_with fail
  refine hpt.out.mono ?_; rintro e w6 ⟨he, hk⟩; obtain ⟨cl, hcl⟩ := HD5.out.blk; have HM6 := mkHid (HM5.out.kg hk hcl hgug); have HE6 : Hid (w6.heap[ge]? = some (.cells #[.int .i64 0] 27 (0, 0))) := mkHid ((hk.block ge (Array.getElem?_eq_some_iff.1 HE5.out).1 hgeg).trans HE5.out); have HB6 : Hid (Below w.heap.size w w6) := mkHid (hk.below HB5.out hsg); (have HR6 : Hid (Kd.R k25 25 w6 w.heap.size (fun _ => True) (.slice A0 n0 c0) xs) := mkHid (R_keep2 HR5.out hcl (by decide) hk.block)); clear hk hcl
  unfold PartE at he
  by_cases h4 : 21 + n + 2 + m ≤ B.length
  case neg =>
    rw [if_neg h4] at he; subst he; exact HG4.out _ _ _ _ _ _ HM6.out HE6.out HB6.out rfl rfl (NoDec.of (decV_no3 B n m HNX.out HMM.out (.inl h4)))
  rw [if_pos h4] at he; obtain ⟨ga, hga, rfl, hQ, hD6⟩ := he; obtain ⟨Q, hQQ⟩ : ∃ Q, Q = (B.drop (21 + n + 2)).take m := ⟨_, rfl⟩; rw [← hQQ] at hQ; (have hQL : Q.length = m := by rw [hQQ, List.length_take, List.length_drop]; omega); have HQQ := mkHid hQQ; have HD6 := mkHid hD6; have HQ := mkHid hQ; (have hguga : gu ≠ ga := by have := (Array.getElem?_eq_some_iff.1 HM5.out.lies.choose_spec.choose_spec.choose_spec.choose_spec.choose_spec.choose_spec.choose_spec.choose_spec.choose_spec.1).1; omega); (have hgega : ge ≠ ga := by have := (Array.getElem?_eq_some_iff.1 HE5.out).1; omega); (have hgga : g ≠ ga := by have := HD5.out.lt; omega); (have hsga : w.heap.size ≤ ga := by have := HB5.out.size; omega); clear hQQ hD6 hQ hga hn1 hn2 hpt hpf HM0 HM1 HM2 HM3 HM4 HM5 HE1 HE2 HE3 HE4 HE5 HB1 HB2 HB3 HB4 HB5 HR4 HR5 HD1 HD2 HD3 HD4 HD5 HP; have HQL := mkHid hQL
  go_wp2_with fail
  go_loopg [27] Q.length (fun kq v27 wr => ∃ (a : S41) (p kk : Nat), p ≤ Q.length ∧ Q.length - p = kq ∧ Q.length ≤ p + kk ∧ a.f4.length ≤ p ∧ Hid (attrsV Q m z41 0 = attrsV Q kk a p) ∧ Hid (UpdM wr gu w.heap.size (.slice A0 n0 c0) (.slice none 0 0) a) ∧ Hid (wr.heap[ge]? = some (.cells #[.int .i64 0] 27 (0, 0))) ∧ Hid (Rdr w wr ga Q p) ∧ Hid (Rdr w wr g B (21 + n + 2 + m)) ∧ Hid (Kd.R k25 25 wr w.heap.size (fun _ => True) (.slice A0 n0 c0) xs) ∧ Hid (Below w.heap.size w wr))
  case atStart => exact ⟨z41, 0, m, by omega, by omega, by omega, Nat.le_refl _, mkHid rfl, HM6, HE6, HQ, HD6, HR6, HB6⟩
  case round =>
    obtain ⟨a, p, kk, hp, hkq, hkk, hf4, HV2, HMr, HEr, HQr, HDr, HRr, HBr⟩ := hrel; have hcr := mkHid (rest_calls w wr ga Q p HQr.out)
    by_cases hdone : p = Q.length
    · have hd2 : ¬ p < Q.length := by omega
      (have hdd : decide ((Q.length : Int) - (p : Int) > 0) = false := decide_eq_false (by omega)); (have hvd : attrsV Q m z41 0 = some a := by rw [HV2.out]; cases kk with | zero => exact if_pos (by omega) | succ z => rw [attrsV, if_pos (by omega)]); have HVD := mkHid hvd; clear hvd
      go_wp2_with fail
      refine hcr.out.mono ?_; rintro e w7 ⟨rfl, ⟨mm, rfl⟩⟩; have hb0 := pw_below_drewN (Below.refl wr.heap.size wr) mm; obtain ⟨X, hX⟩ : ∃ X, X = wr.drewN mm := ⟨_, rfl⟩; rw [← hX] at hb0 ⊢; obtain ⟨cq, hcq⟩ := HQr.out.blk; have HMX := mkHid (HMr.out.kg (Kg.of (g := ga) hb0) hcq hguga); have HEX : Hid (X.heap[ge]? = some (.cells #[.int .i64 0] 27 (0, 0))) := mkHid ((hb0.block ge (Array.getElem?_eq_some_iff.1 HEr.out).1).trans HEr.out); have HDX : Hid (Rdr w X g B (21 + n + 2 + m)) := mkHid (HDr.out.grown hb0 HDr.out.lt); have HRX := mkHid (Kd.R_below HRr.out hb0); have HBX : Hid (Below w.heap.size w X) := mkHid (HBr.out.trans (hb0.mono HBr.out.size)); clear hX hb0 hcq; (have hpf := mkHid (prefixes_calls w X g B (21 + n + 2 + m) B.length (by omega) hB HDX.out))
      go_wp2_with fail
      refine hpf.out.mono ?_; rintro e w8 ⟨he, hk⟩; obtain ⟨cl, hcl⟩ := HDX.out.blk; have HM8 := mkHid (HMX.out.kg hk hcl hgug); have HE8 : Hid (w8.heap[ge]? = some (.cells #[.int .i64 0] 27 (0, 0))) := mkHid ((hk.block ge (Array.getElem?_eq_some_iff.1 HEX.out).1 hgeg).trans HEX.out); have HB8 : Hid (Below w.heap.size w w8) := mkHid (hk.below HBX.out hsg); (have HR8 := mkHid (R_keep2 HRX.out hcl (by decide) hk.block)); clear hk hcl
      rcases he with ⟨hv, rfl⟩ | ⟨ys, A1, n1, c1, hv, hys, hn1', rfl, hR1, _⟩
      · exact HG4.out _ _ _ _ _ _ HM8.out HE8.out HB8.out rfl rfl (NoDec.of (decV_no3 B n m HNX.out HMM.out (.inr (.inr hv))))
      have hR1 := Kd.R_lower hR1 HBX.out.size; have hst := HM8.out.setT (.slice A1 n1 c1); obtain ⟨z1, z2⟩ := hst.2.1; obtain ⟨cl, hcl⟩ := hst.2.2.2; obtain ⟨W9, hW9⟩ : ∃ W9, W9 = w8.setCell ⟨gu, 1, none⟩ (.slice A1 n1 c1) := ⟨_, rfl⟩; have hM9 := hst.1; (have hE9 := (hst.2.2.1.block ge (fun h => hguge h.symm)).trans HE8.out); have hB9 := below_set HB8.out hsu 1 (.slice A1 n1 c1); (have hR9 := R_keep2 HR8.out hcl (by decide) (fun b _ hb => hst.2.2.1.block b hb)); (have hR9b := R_keep2 hR1 hcl (by decide) (fun b _ hb => hst.2.2.1.block b hb)); rw [← hW9] at hM9 hE9 hB9 hR9 hR9b; have HM9 := mkHid hM9; have HE9 := mkHid hE9; have HB9 := mkHid hB9; have HR9 := mkHid hR9; have HR9b := mkHid hR9b; have HV9 := mkHid hv; have HYS := mkHid hys; have HN1 := mkHid hn1'; have HW9 := mkHid hW9; obtain ⟨A3, A4, A6, n3, n4, n6, c3, c4, c6, g1, g2, g3, g4, g5, g6, g7⟩ := hM9; (have y0 : (w8.setCell ⟨gu, 1, none⟩ (.slice A1 n1 c1)).cell? ⟨gu, 0, none⟩ = some (.slice A0 n0 c0) := by rw [← hW9]; exact blk_cell g1 0); (have y1 : (w8.setCell ⟨gu, 1, none⟩ (.slice A1 n1 c1)).cell? ⟨gu, 1, none⟩ = some (.slice A1 n1 c1) := by rw [← hW9]; exact blk_cell g1 1); (have y2 : (w8.setCell ⟨gu, 1, none⟩ (.slice A1 n1 c1)).cell? ⟨gu, 2, none⟩ = some (.int .i64 a.f0) := by rw [← hW9]; exact blk_cell g1 2)
      (have y3 : (w8.setCell ⟨gu, 1, none⟩ (.slice A1 n1 c1)).cell? ⟨gu, 3, none⟩ = some (.int .i64 a.f1) := by rw [← hW9]; exact blk_cell g1 3); (have y4 : (w8.setCell ⟨gu, 1, none⟩ (.slice A1 n1 c1)).cell? ⟨gu, 4, none⟩ = some (.int .i64 a.f2) := by rw [← hW9]; exact blk_cell g1 4); (have y5 : (w8.setCell ⟨gu, 1, none⟩ (.slice A1 n1 c1)).cell? ⟨gu, 5, none⟩ = some (.slice A3 n3 c3) := by rw [← hW9]; exact blk_cell g1 5); (have y6 : (w8.setCell ⟨gu, 1, none⟩ (.slice A1 n1 c1)).cell? ⟨gu, 6, none⟩ = some (.slice A4 n4 c4) := by rw [← hW9]; exact blk_cell g1 6); (have y7 : (w8.setCell ⟨gu, 1, none⟩ (.slice A1 n1 c1)).cell? ⟨gu, 7, none⟩ = some (.int .i64 a.f5) := by rw [← hW9]; exact blk_cell g1 7); (have y8 : (w8.setCell ⟨gu, 1, none⟩ (.slice A1 n1 c1)).cell? ⟨gu, 8, none⟩ = some (.slice A6 n6 c6) := by rw [← hW9]; exact blk_cell g1 8)
      have hfw : FewU ⟨xs, ys, a⟩ 100000 := by
        (obtain ⟨q1, q2, q3⟩ := attrsV_few Q m _ _ _ HVD.out (by omega) (by simp [z41]) (by simp [z41]) (by simp [z41])); have q4 := prefsV_len _ _ _ _ HV.out; have q5 := prefsV_len _ _ _ _ hv; (exact ⟨by show xs.length ≤ _; omega, by show ys.length ≤ _; omega, by show a.f3.length ≤ _; omega, by show a.f4.length ≤ _; omega, by show a.f6.length ≤ _; omega, fun x hx => (HXS.out x hx).1, fun x hx => (hys x hx).1⟩)
      obtain ⟨kE, hkE⟩ := (encX_ev ⟨xs, ys, a⟩ hfw).ex; (have hdv := mkHid (decV_yes B n m HNX.out HMM.out h4 xs ys a (by rw [← HPP.out]; exact HV.out) (by rw [← HQQ.out]; exact HVD.out) hv)); have hfwH := mkHid hfw; obtain ⟨r1, r2, hrr⟩ : ∃ (r1 : List Int) (r2 : Int), (if updB ⟨xs, ys, a⟩ = true then (encB ⟨xs, ys, a⟩, (0 : Int)) else ([], 1)) = (r1, r2) := ⟨_, _, rfl⟩; rw [hrr] at hkE
      have hEn : Calls Try.prog 17 #[.agg #[.slice A0 n0 c0, .slice A1 n1 c1, .int .i64 a.f0, .int .i64 a.f1, .int .i64 a.f2, .slice A3 n3 c3, .slice A4 n4 c4, .int .i64 a.f5, .slice A6 n6 c6]] W9 fun e w' => ∃ v0_ : Value, e = .returned (.tuple #[v0_, .int .i64 r2]) ∧ Kd.R (Kd.int .u8) 5 w' W9.heap.size (fun _ => True) v0_ r1 ∧ Below W9.heap.size W9 w' := by
        have b0 := Kd.R_reads' hR9; have b1 := Kd.R_reads' hR9b; have b3 := Kd.R_reads' g5; have b4 := Kd.R_reads' g6; have b6 := Kd.R_reads' g7; (have h := wire_Encode.calls kE A0 c0 xs A1 c1 ys a.f0 a.f1 a.f2 A3 c3 a.f3 A4 c4 a.f4 a.f5 A6 c6 a.f6 r1 r2 W9 b0.2.2 (by rw [← b0.1]; exact b0.2.1) b1.2.2 (by rw [← b1.1]; exact b1.2.1) b3.2.2 (by rw [← b3.1]; exact b3.2.1) b4.2.2 (by rw [← b4.1]; exact b4.2.1) b6.2.2 (by rw [← b6.1]; exact b6.2.1) hkE); rw [← b0.1, ← b1.1, ← b3.1, ← b4.1, ← b6.1] at h; exact h
      have hEN := mkHid hEn; have HRR := mkHid hrr; have HG1 := mkHid g1; have HG5 := mkHid g5; have HG6 := mkHid g6; have HG7 := mkHid g7; clear hst hcl hv hys hn1' hR1 hW9 hE9 hB9 hR9 hR9b hEn hrr hkE hfw g1 g2 g3 g4 g5 g6 g7 hpf hcr
      go_wp2_with fail
      rw [← HW9.out]; clear HW9 z1 z2 y0 y1 y2 y3 y4 y5 y6 y7 y8; refine hEN.out.mono ?_; rintro e w10 ⟨vE, rfl, hRE, hbE⟩; obtain ⟨AE, cE, rfl⟩ := Kd.R_slice hRE; have HM10 := mkHid (HM9.out.grown hbE); have HE10 : Hid (w10.heap[ge]? = some (.cells #[.int .i64 0] 27 (0, 0))) := mkHid ((hbE.block ge (Array.getElem?_eq_some_iff.1 HE9.out).1).trans HE9.out); have HB10 : Hid (Below w.heap.size w w10) := mkHid (HB9.out.trans (hbE.mono HB9.out.size)); have HRE := mkHid hRE; have HBE := mkHid hbE; clear hRE hbE
      by_cases hub : updB ⟨xs, ys, a⟩ = true
      case neg =>
        have hr := HRR.out; rw [if_neg hub] at hr
        injection hr with e1 e2
        subst e1 e2; have hmu := mkHid (must_calls w10 (.pointer (some ⟨g, 0, none⟩)) false)
        go_wp2_with fail
        refine hmu.out.mono ?_; rintro e w11 ⟨he, rfl⟩
        unfold MustE at he
        (rw [if_neg (by simp)] at he); subst he; (exact HG4.out _ _ _ _ _ _ HM10.out HE10.out HB10.out rfl rfl (fun u hu => by rw [hdv.out] at hu; injection hu with hu; subst hu; exact fun hh => hub hh.1))
      have hr := HRR.out; rw [if_pos hub] at hr
      injection hr with e1 e2
      subst e1 e2; clear HRR; obtain ⟨bq, hbq⟩ : ∃ b : Bool, b = ((strOfNums (encB ⟨xs, ys, a⟩)).toList == (strOfNums B).toList) := ⟨_, rfl⟩; (have hbe := bytes_Equal.calls AE cE (encB ⟨xs, ys, a⟩) A c B bq w10 (Kd.R_reads' HRE.out).2.2 (Kd.R_reads' HRE.out).2.1 (Kd.C_below HCB.out HB10.out) HCC.out (by rw [hbq]; rfl)); have HBQ := mkHid hbq; have HBEQ := mkHid hbe; obtain ⟨E, hE⟩ : ∃ E, E = encB ⟨xs, ys, a⟩ := ⟨_, rfl⟩; rw [← hE] at HBQ HBEQ HRE ⊢; have HEE := mkHid hE; clear hbq hbe hE
      go_wp2_with fail
      refine HBEQ.out.mono ?_; rintro e w11 ⟨rfl, hdr⟩; obtain ⟨mm, hmm⟩ := hdr.out; (have hb11 : Below w10.heap.size w10 w11 := by rw [hmm]; exact pw_below_drewN (Below.refl w10.heap.size w10) mm); have HM11 := mkHid (HM10.out.grown hb11); have HE11 : Hid (w11.heap[ge]? = some (.cells #[.int .i64 0] 27 (0, 0))) := mkHid ((hb11.block ge (Array.getElem?_eq_some_iff.1 HE10.out).1).trans HE10.out); have HB11 : Hid (Below w.heap.size w w11) := mkHid (HB10.out.trans (hb11.mono HB10.out.size)); have HB9 : Hid (Below W9.heap.size W9 w11) := mkHid (HBE.out.trans (hb11.mono HBE.out.size)); clear hdr hmm hb11; have hmu := mkHid (must_calls w11 (.pointer (some ⟨g, 0, none⟩)) bq)
      cases bq with
      | false =>
        go_wp2_with fail
        refine hmu.out.mono ?_; rintro e w12 ⟨he, rfl⟩
        unfold MustE at he
        (rw [if_neg (by simp)] at he); subst he; (refine HG4.out _ _ _ _ _ _ HM11.out HE11.out HB11.out rfl rfl (fun u hu => ?_)); rw [hdv.out] at hu; injection hu with hu; subst hu; rintro ⟨_, h2⟩; have h3 := HBQ.out; rw [HEE.out, h2] at h3
        simp at h3
      | true =>
        go_wp2_with fail
        refine hmu.out.mono ?_; rintro e w12 ⟨he, rfl⟩
        unfold MustE at he
        rw [if_pos rfl] at he; subst he; obtain ⟨B3, B4, B6, m3, m4, m6, d3, d4, d6, g1, g2, g3, g4, g5, g6, g7⟩ := HM11.out.lies; subst g2 g3 g4; have h9 := HE11.out; have y0 := blk_cell g1 0; have f0 := blk_frozen g1 0; have y1 := blk_cell g1 1; have f1 := blk_frozen g1 1; have y2 := blk_cell g1 2; have f2 := blk_frozen g1 2; have y3 := blk_cell g1 3; have f3 := blk_frozen g1 3; have y4 := blk_cell g1 4; have f4 := blk_frozen g1 4; have y5 := blk_cell g1 5; have f5 := blk_frozen g1 5; have y6 := blk_cell g1 6; have f6 := blk_frozen g1 6; have y7 := blk_cell g1 7; have f7 := blk_frozen g1 7; have y8 := blk_cell g1 8; have f8 := blk_frozen g1 8; have z0 := blk_cell h9 0; have zf := blk_frozen h9 0
        simp at y0 y1 y2 y3 y4 y5 y6 y7 y8 z0
        have HG1 := mkHid g1; have HG5 := mkHid g5; have HG6 := mkHid g6; have HG7 := mkHid g7; clear g1 g5 g6 g7 h9 hmu HBEQ hEN
        go_wp2_with fail
        rw [set_self HG1.out 0 (.slice A0 n0 c0) rfl, set_self HG1.out 1 (.slice A1 n1 c1) rfl, set_self HG1.out 2 (.int .i64 a.f0) rfl, set_self HG1.out 3 (.int .i64 a.f1) rfl, set_self HG1.out 4 (.int .i64 a.f2) rfl, set_self HG1.out 5 (.slice B3 a.f3.length d3) rfl, set_self HG1.out 6 (.slice B4 a.f4.length d4) rfl, set_self HG1.out 7 (.int .i64 a.f5) rfl, set_self HG1.out 8 (.slice B6 a.f6.length d6) rfl, set_self HE11.out 0 (.int .i64 0) rfl]; (refine leaves_cons (f := 41) (args := #[.pointer (some ⟨gu, 0, none⟩), .pointer (some ⟨ge, 0, none⟩)]) (by simp) (by simp [go_sem]) ?_); refine (given_idle _ _ _).mono ?_; rintro e u' w' ⟨rfl, rfl, rfl⟩
        simp [Leaves, settle, results, Try.results20, go_sem, y0, y1, y2, y3, y4, y5, y6, y7, y8, z0]
        have b0 := Kd.R_reads' HR9.out; have b1 := Kd.R_reads' HR9b.out; have b3 := Kd.R_reads' HG5.out; have b4 := Kd.R_reads' HG6.out; have b6 := Kd.R_reads' HG7.out
        have hEB : encB ⟨xs, ys, a⟩ = B := by
          have h3 := HBQ.out; rw [HEE.out] at h3; (exact son_inj (encB_u8 hub) hu (by simpa using h3))
        have e0 : n0 = xs.length := HN0.out; have e1 : n1 = ys.length := HN1.out; subst e0 e1; exact ⟨HB11.out, .inr ⟨⟨xs, ys, a⟩, _, hdv.out, hfwH.out, hub, hEB, ⟨A0, A1, B3, B4, B6, c0, c1, d3, d4, d6, rfl, Kd.C_below b0.2.2 HB9.out, b0.2.1, Kd.C_below b1.2.2 HB9.out, b1.2.1, b3.2.2, b3.2.1, b4.2.2, b4.2.1, b6.2.2, b6.2.1⟩, rfl⟩⟩
    · have hd2 : p < Q.length := by omega
      (have hdd : decide ((Q.length : Int) - (p : Int) > 0) = true := decide_eq_true (by omega)); (obtain ⟨kk, rfl⟩ : ∃ k2, kk = k2 + 1 := ⟨kk - 1, by omega⟩)
      go_wp2_with fail
      refine hcr.out.mono ?_; rintro e w7 ⟨rfl, ⟨mm, rfl⟩⟩; have hb0 := pw_below_drewN (Below.refl wr.heap.size wr) mm; obtain ⟨X, hX⟩ : ∃ X, X = wr.drewN mm := ⟨_, rfl⟩; rw [← hX] at hb0 ⊢; obtain ⟨cq, hcq⟩ := HQr.out.blk; have HMX := mkHid (HMr.out.kg (Kg.of (g := ga) hb0) hcq hguga); have HEX : Hid (X.heap[ge]? = some (.cells #[.int .i64 0] 27 (0, 0))) := mkHid ((hb0.block ge (Array.getElem?_eq_some_iff.1 HEr.out).1).trans HEr.out); have HQX : Hid (Rdr w X ga Q p) := mkHid (HQr.out.grown hb0 HQr.out.lt); have HDX : Hid (Rdr w X g B (21 + n + 2 + m)) := mkHid (HDr.out.grown hb0 HDr.out.lt); have HRX := mkHid (Kd.R_below HRr.out hb0); have HBX : Hid (Below w.heap.size w X) := mkHid (HBr.out.trans (hb0.mono HBr.out.size)); clear hX hb0 hcq; (have hat := mkHid (attribute_calls w.heap.size w X ga gu Q p _ _ a HQX.out (Nat.le_refl _) hsga hsu hguga HMX.out (by omega) (by omega)))
      go_wp2_with fail
      refine hat.out.mono ?_; rintro e w8 ⟨he, hkt⟩; (have HE8 : Hid (w8.heap[ge]? = some (.cells #[.int .i64 0] 27 (0, 0))) := mkHid ((hkt.block ge (Array.getElem?_eq_some_iff.1 HEX.out).1 hgega (fun h => hguge h.symm) (fun c hc => by rw [HEX.out] at hc; simp at hc)).trans HEX.out)); have HB8 : Hid (Below w.heap.size w w8) := mkHid (HBX.out.trans hkt.below); (have HD8 : Hid (Rdr w w8 g B (21 + n + 2 + m)) := mkHid (HDX.out.kt hkt hgga (fun h => hgug h.symm) (Nat.le_refl _))); have HR8 := mkHid (R_kt HRX.out hkt HQX.out.blk ⟨_, HMX.out.lies.choose_spec.choose_spec.choose_spec.choose_spec.choose_spec.choose_spec.choose_spec.choose_spec.choose_spec.1⟩)
      rcases he with ⟨hv, rfl, a', hM⟩ | ⟨a', p', hv, rfl, hM, hQ8⟩
      · exact HG4.out _ _ _ _ _ _ hM HE8.out HB8.out rfl rfl (NoDec.of (decV_no3 B n m HNX.out HMM.out (.inr (.inl (by rw [← HQQ.out, HV2.out, attrsV, if_neg (by omega), hv]; rfl)))))
      obtain ⟨s1, s2, s3⟩ := attrV_step a a' Q p p' hv; have HM8 := mkHid hM; have HQ8 := mkHid hQ8; (have HV8 : Hid (attrsV Q m z41 0 = attrsV Q kk a' p') := mkHid (by rw [HV2.out, attrsV, if_neg (by omega), hv]; rfl)); clear hkt hM hQ8 hv
      go_wp2_with fail
      go_roundg (Q.length - p')
      case measure => omega
      case rel => exact ⟨a', p', kk, s2, rfl, by omega, by omega, HV8, HM8, HE8, HQ8, HD8, HR8, HB8⟩

theorem beV1 (n : Int) (h0 : 0 ≤ n) (h1 : n < 256) : beV [n % 256] = n := by simp [beV]; omega
theorem beV2 (n : Int) (h0 : 0 ≤ n) (h1 : n < 65536) : beV (beB 2 n) = n := by simp [beV, beB]; omega
theorem beV4 (n : Int) (h0 : 0 ≤ n) (h1 : n < 4294967296) : beV (beB 4 n) = n := by simp [beV, beB]; omega
theorem numsV_app (n : Nat) : ∀ (k : Nat) (A B : List Int), n * k ≤ A.length → numsV n k (A ++ B) = numsV n k A := by
  intro k
  induction k with
  | zero => intro A B _; rfl
  | succ k ih =>
    intro A B h; rw [Nat.mul_succ] at h; (rw [numsV, numsV, ih A B (by omega), List.drop_append, List.take_append_of_le_length (by rw [List.length_drop]; omega)])
theorem numsV_fm (n : Nat) (p : Int → Prop) (f : Int → List Int) (hl : ∀ x, (f x).length = n) (hb : ∀ x, p x → beV (f x) = x) : ∀ (r : List Int), (∀ x ∈ r, p x) → numsV n r.length (r.reverse.flatMap f) = r.reverse := by
  intro r
  induction r with
  | nil => intro _; rfl
  | cons x r ih =>
    intro h; (have hL : (r.reverse.flatMap f).length = n * r.length := by rw [fm_len f n hl, List.length_reverse]); (have h1 := ih (fun y hy => h y (List.mem_cons_of_mem _ hy))); (rw [List.reverse_cons, List.flatMap_append, List.length_cons, numsV, numsV_app _ _ _ _ (by omega), h1, ← hL, List.drop_left, List.flatMap_cons, List.flatMap_nil, List.append_nil, List.take_of_length_le (by rw [hl]; omega), hb x (h x (by simp))])
theorem nums2 (l : List Int) (h : ∀ x ∈ l, 0 ≤ x ∧ x < 65536) : numsV 2 l.length (bs2 l) = l := by
  (have := numsV_fm 2 (fun x => 0 ≤ x ∧ x < 65536) (beB 2) (beB_len 2) (fun x hx => beV2 x hx.1 hx.2) l.reverse (fun x hx => h x (List.mem_reverse.1 hx))); rw [List.reverse_reverse, List.length_reverse] at this; exact this
theorem nums4 (l : List Int) (h : ∀ x ∈ l, 0 ≤ x ∧ x < 65536) : numsV 4 l.length (bs4 l) = l := by
  (have := numsV_fm 4 (fun x => 0 ≤ x ∧ x < 65536) (beB 4) (beB_len 4) (fun x hx => beV4 x hx.1 (by omega)) l.reverse (fun x hx => h x (List.mem_reverse.1 hx))); rw [List.reverse_reverse, List.length_reverse] at this; exact this
theorem commsV_app : ∀ (k : Nat) (A B : List Int), 4 * k ≤ A.length → commsV k (A ++ B) = commsV k A := by
  intro k
  induction k with
  | zero => intro A B _; rfl
  | succ k ih =>
    intro A B h; (rw [commsV, commsV, ih A B (by omega), List.drop_append, List.take_append_of_le_length (by rw [List.length_drop]; omega), List.drop_append, List.take_append_of_le_length (by rw [List.length_drop]; omega)])
theorem comms_rev : ∀ (r : List S102), (∀ x ∈ r, (0 ≤ x.f0 ∧ x.f0 < 65536) ∧ 0 ≤ x.f1 ∧ x.f1 < 65536) → commsV r.length (bsC r.reverse) = r.reverse := by
  intro r
  induction r with
  | nil => intro _; rfl
  | cons x r ih =>
    intro h; (have hL : (bsC r.reverse).length = 4 * r.length := by rw [bsC_len, List.length_reverse]); (have h1 := ih (fun y hy => h y (List.mem_cons_of_mem _ hy))); (have hx := h x (by simp)); (have e : bsC (x :: r).reverse = bsC r.reverse ++ (beB 2 x.f0 ++ beB 2 x.f1) := by unfold bsC; rw [List.reverse_cons, List.flatMap_append]; simp)
    have e2 : (bsC r.reverse ++ (beB 2 x.f0 ++ beB 2 x.f1)).drop (4 * r.length + 2) = beB 2 x.f1 := by
      rw [← hL, List.drop_append, List.drop_eq_nil_of_le (by omega), List.nil_append, show (bsC r.reverse).length + 2 - (bsC r.reverse).length = 2 by omega]; rfl
    rw [e, List.length_cons, commsV, commsV_app _ _ _ (by omega), h1, e2, ← hL, List.drop_left, List.take_append_of_le_length (by rw [beB_len]; omega), List.take_of_length_le (by rw [beB_len]; omega), List.take_of_length_le (by rw [beB_len]; omega), beV2 _ hx.1.1 hx.1.2, beV2 _ hx.2.1 hx.2.2, List.reverse_cons]
theorem commsB (l : List S102) (h : ∀ x ∈ l, (0 ≤ x.f0 ∧ x.f0 < 65536) ∧ 0 ≤ x.f1 ∧ x.f1 < 65536) : commsV l.length (bsC l) = l := by
  (have := comms_rev l.reverse (fun x hx => h x (List.mem_reverse.1 hx))); rw [List.reverse_reverse, List.length_reverse] at this; exact this
theorem pathB_back (l : List Int) (h : ∀ x ∈ l, 0 ≤ x ∧ x < 65536) (hl : l.length ≤ 100) : pathV (pathBy l) 0 = some l := by
  unfold pathV pathBy
  cases l with
  | nil => rfl
  | cons x r =>
    obtain ⟨l, hr⟩ : ∃ l, l = x :: r := ⟨_, rfl⟩; rw [← hr] at h hl ⊢; (have hp : 0 < l.length := by rw [hr]; simp); rw [if_pos hp]; (have hL : ([2, (l.length : Int) % 256] ++ bs2 l).length = 2 + 2 * l.length := by rw [List.length_append, bs2_len]; rfl); (rw [if_neg (by omega)]); have hd : ([2, (l.length : Int) % 256] ++ bs2 l).drop (0 + 2) = bs2 l := rfl; have h1 : (([2, (l.length : Int) % 256] ++ bs2 l).drop (0 + 1)).take 1 = [(l.length : Int) % 256] := rfl; have h0 : (([2, (l.length : Int) % 256] ++ bs2 l).drop 0).take 1 = [2] := rfl; (rw [hd, h1, h0, hL, beV1 _ (by omega) (by omega), show (2 + 2 * l.length - (0 + 2)) / 2 = l.length by omega, nums2 l h, if_pos]); (exact ⟨rfl, by omega, by omega, rfl⟩)
def RdsA (A : List Int) (a : S41) (at_ : Nat) (r : S41) : Prop := ∃ n, n ≤ A.length - at_ ∧ ∀ k, n ≤ k → attrsV A k a at_ = some r
theorem RdsA.fin (A : List Int) (a : S41) : RdsA A a A.length a := ⟨0, by omega, fun k _ => by cases k <;> rw [attrsV, if_pos (by omega)]⟩
theorem attrV_at (a a' : S41) (X P Y : List Int) (fl kind : Int) (hk : 0 ≤ kind ∧ kind < 256) (hP : P.length < 256) (h : payV a kind P = some a') : attrV a (X ++ oneB fl kind P ++ Y) X.length = some (a', X.length + 3 + P.length) := by
  have d1 : ((X ++ oneB fl kind P ++ Y).drop (X.length + 1)).take 1 = [kind] := by
    rw [List.append_assoc, List.drop_append, List.drop_eq_nil_of_le (by omega), List.nil_append, show X.length + 1 - X.length = 1 by omega]; rfl
  have d2 : ((X ++ oneB fl kind P ++ Y).drop (X.length + 2)).take 1 = [(P.length : Int) % 256] := by
    rw [List.append_assoc, List.drop_append, List.drop_eq_nil_of_le (by omega), List.nil_append, show X.length + 2 - X.length = 2 by omega]; rfl
  have d3 : ((X ++ oneB fl kind P ++ Y).drop (X.length + 3)).take P.length = P := by
    rw [List.append_assoc, List.drop_append, List.drop_eq_nil_of_le (by omega), List.nil_append, show X.length + 3 - X.length = 3 by omega]
    show (P ++ Y).take P.length = P
    rw [List.take_left]
  (have hk2 : beV [kind] = kind := by simp [beV]); (have hL : (X ++ oneB fl kind P ++ Y).length = X.length + (P.length + 3) + Y.length := by rw [List.length_append, List.length_append, oneB_len])
  unfold attrV
  rw [d2, beV1 _ (by omega) (by omega), Int.toNat_natCast, d1, d3, hk2, h, if_pos ⟨by omega, by omega⟩]
  rfl
theorem RdsA.one {a a' r : S41} {X P Y : List Int} {fl kind : Int} (hk : 0 ≤ kind ∧ kind < 256) (hP : P.length < 256) (h : payV a kind P = some a') (hr : RdsA (X ++ oneB fl kind P ++ Y) a' (X ++ oneB fl kind P).length r) : RdsA (X ++ oneB fl kind P ++ Y) a X.length r := by
  obtain ⟨n, h1, h2⟩ := hr; (have hL : (X ++ oneB fl kind P ++ Y).length = X.length + (P.length + 3) + Y.length := by rw [List.length_append, List.length_append, oneB_len]); (have hl2 : (X ++ oneB fl kind P).length = X.length + (P.length + 3) := by rw [List.length_append, oneB_len]); rw [hl2, hL] at h1; rw [hl2] at h2; (refine ⟨n + 1, by omega, fun k hk2 => ?_⟩); (obtain ⟨k, rfl⟩ : ∃ m, k = m + 1 := ⟨k - 1, by omega⟩); (rw [attrsV, if_neg (by omega), attrV_at a a' X P Y fl kind hk hP h])
  show attrsV _ k a' (X.length + 3 + P.length) = some r
  (rw [show X.length + 3 + P.length = X.length + (P.length + 3) by omega]); (exact h2 k (by omega))
theorem RdsA.step {A : List Int} {a a' r : S41} (X P Y : List Int) (fl kind : Int) (c : Bool) (hA : A = X ++ opt c (oneB fl kind P) ++ Y) (hk : 0 ≤ kind ∧ kind < 256) (hP : P.length < 256) (h : c = true → payV a kind P = some a') (hf : c = false → a' = a) (hr : RdsA A a' (X ++ opt c (oneB fl kind P)).length r) : RdsA A a X.length r := by
  subst hA
  cases c with
  | true => exact RdsA.one hk hP (h rfl) hr
  | false =>
    rw [hf rfl] at hr
    simpa [opt] using hr
theorem clB_all : ∀ (l seen : List Int), clB seen l = true → ∀ x ∈ l, asB x = true := by
  intro l
  induction l with
  | nil => intro s _ x hx; cases hx
  | cons y l ih =>
    intro s h x hx; simp only [clB, Bool.and_eq_true] at h
    rcases List.mem_cons.1 hx with rfl | hx
    · exact h.1
    · exact ih _ h.2.2 x hx
theorem stepsB_all : ∀ (l : List S102) (p : Option S102), stepsB p l = true → ∀ x ∈ l, mayCB x.f0 x.f1 = true := by
  intro l
  induction l with
  | nil => intro s _ x hx; cases hx
  | cons y l ih =>
    intro s h x hx; simp only [stepsB, Bool.and_eq_true] at h
    rcases List.mem_cons.1 hx with rfl | hx
    · exact h.1
    · exact ih _ h.2.2 x hx
theorem asB_rng {x : Int} (h : asB x = true) : 0 ≤ x ∧ x < 65536 := by
  unfold asB at h
  simp only [Bool.and_eq_true, decide_eq_true_eq] at h; omega
structure MayA (a : S41) : Prop where
  p : 0 ≤ a.f0 ∧ a.f0 < 4294967296
  m : 0 ≤ a.f1 ∧ a.f1 < 4294967296
  o : 0 ≤ a.f2 ∧ a.f2 < 256
  path : ∀ x ∈ a.f3, 0 ≤ x ∧ x < 65536
  pl : a.f3.length ≤ 16
  comms : ∀ x ∈ a.f4, (0 ≤ x.f0 ∧ x.f0 < 65536) ∧ 0 ≤ x.f1 ∧ x.f1 < 65536
  cl : a.f4.length ≤ 8
  f : 0 ≤ a.f5 ∧ a.f5 < 4294967296
  clus : ∀ x ∈ a.f6, 0 ≤ x ∧ x < 65536
  sl : a.f6.length ≤ 8
theorem mayA_of (a : S41) (h : mayAB a.f0 a.f1 a.f2 a.f3 a.f4 a.f5 a.f6 = true) : MayA a := by
  unfold mayAB mayNB pathB setB clustB inB at h
  simp only [Bool.and_eq_true, decide_eq_true_eq, List.all_eq_true] at h; obtain ⟨⟨h1, h2, h3, h4⟩, ⟨h5, h6⟩, ⟨h7, h8⟩, h9, h10⟩ := h; (refine ⟨by omega, by omega, by omega, fun x hx => asB_rng (h6 x hx), h5, fun x hx => ?_, h7, by omega, fun x hx => asB_rng (clB_all _ _ h10 x hx), h9⟩); have hc := stepsB_all _ _ h8 x hx
  unfold mayCB at hc
  simp only [Bool.and_eq_true, decide_eq_true_eq] at hc; omega
theorem attrs_back (a : S41) (H : MayA a) : RdsA (atB a.f0 a.f1 a.f2 a.f3 a.f4 a.f5 a.f6) z41 0 a := by
  obtain ⟨p, m, o, path, cs, f, cl⟩ := a; obtain ⟨hp, hm, ho, hpa, hpl, hcs, hcl, hf, hc, hsl⟩ := H; dsimp only at *; obtain ⟨A, hA⟩ : ∃ A, A = atB p m o path cs f cl := ⟨_, rfl⟩; have hAA : A = (((((([] ++ opt true (oneB 64 1 [o % 256])) ++ opt true (oneB 64 2 (pathBy path))) ++ opt (decide (m > 0)) (oneB 128 4 (beB 4 m))) ++ opt true (oneB 64 5 (beB 4 p))) ++ opt (decide (0 < (bsC cs).length)) (oneB 192 8 (bsC cs))) ++ opt (decide (f > 0)) (oneB 128 9 (beB 4 f))) ++ opt (decide (0 < (bs4 cl).length)) (oneB 128 10 (bs4 cl)) := hA; rw [← hA]; have hpL := pathBy_len path; have hcL := bsC_len cs; have hsL := bs4_len cl
  show RdsA A _ ([] : List Int).length _
  refine RdsA.step (a' := { z41 with f2 := o }) [] [o % 256] (opt true (oneB 64 2 (pathBy path)) ++ opt (decide (m > 0)) (oneB 128 4 (beB 4 m)) ++ opt true (oneB 64 5 (beB 4 p)) ++ opt (decide (0 < (bsC cs).length)) (oneB 192 8 (bsC cs)) ++ opt (decide (f > 0)) (oneB 128 9 (beB 4 f)) ++ opt (decide (0 < (bs4 cl).length)) (oneB 128 10 (bs4 cl))) 64 1 true (by rw [hAA]; simp only [List.append_assoc]) (by omega) (by simp) (fun _ => ?_) (fun h => by cases h) ?_
  · unfold payV; rw [if_pos rfl, if_pos (show [o % 256].length = 1 from rfl), beV1 o ho.1 ho.2]
  refine RdsA.step (a' := { z41 with f2 := o, f3 := path }) _ (pathBy path) (opt (decide (m > 0)) (oneB 128 4 (beB 4 m)) ++ opt true (oneB 64 5 (beB 4 p)) ++ opt (decide (0 < (bsC cs).length)) (oneB 192 8 (bsC cs)) ++ opt (decide (f > 0)) (oneB 128 9 (beB 4 f)) ++ opt (decide (0 < (bs4 cl).length)) (oneB 128 10 (bs4 cl))) 64 2 true (by rw [hAA]; simp only [List.append_assoc]) (by omega) (by omega) (fun _ => ?_) (fun h => by cases h) ?_
  · unfold payV; rw [if_neg (by decide), if_pos rfl, pathB_back path hpa (by omega)]; rfl
  refine RdsA.step (a' := { z41 with f2 := o, f3 := path, f1 := m }) _ (beB 4 m) (opt true (oneB 64 5 (beB 4 p)) ++ opt (decide (0 < (bsC cs).length)) (oneB 192 8 (bsC cs)) ++ opt (decide (f > 0)) (oneB 128 9 (beB 4 f)) ++ opt (decide (0 < (bs4 cl).length)) (oneB 128 10 (bs4 cl))) 128 4 (decide (m > 0)) (by rw [hAA]; simp only [List.append_assoc]) (by omega) (by rw [beB_len]; omega) (fun _ => ?_) (fun h => ?_) ?_
  · unfold payV; rw [if_neg (by decide), if_neg (by decide), if_pos rfl, if_pos (beB_len 4 m), beV4 m hm.1 hm.2]
  · have h := of_decide_eq_false h
    rw [show m = 0 by omega]; rfl
  refine RdsA.step (a' := { z41 with f2 := o, f3 := path, f1 := m, f0 := p }) _ (beB 4 p) (opt (decide (0 < (bsC cs).length)) (oneB 192 8 (bsC cs)) ++ opt (decide (f > 0)) (oneB 128 9 (beB 4 f)) ++ opt (decide (0 < (bs4 cl).length)) (oneB 128 10 (bs4 cl))) 64 5 true (by rw [hAA]; simp only [List.append_assoc]) (by omega) (by rw [beB_len]; omega) (fun _ => ?_) (fun h => by cases h) ?_
  · unfold payV; rw [if_neg (by decide), if_neg (by decide), if_neg (by decide), if_pos rfl, if_pos (beB_len 4 p), beV4 p hp.1 hp.2]
  refine RdsA.step (a' := { z41 with f2 := o, f3 := path, f1 := m, f0 := p, f4 := cs }) _ (bsC cs) (opt (decide (f > 0)) (oneB 128 9 (beB 4 f)) ++ opt (decide (0 < (bs4 cl).length)) (oneB 128 10 (bs4 cl))) 192 8 (decide (0 < (bsC cs).length)) (by rw [hAA]; simp only [List.append_assoc]) (by omega) (by omega) (fun _ => ?_) (fun h => ?_) ?_
  · unfold payV
    rw [if_neg (by decide), if_neg (by decide), if_neg (by decide), if_neg (by decide), if_pos rfl, if_pos (by omega), hcL, show 4 * cs.length / 4 = cs.length by omega, commsB cs hcs]; first | done | rfl
  · have h := of_decide_eq_false h
    rw [show cs = [] from List.length_eq_zero_iff.1 (by omega)]; rfl
  refine RdsA.step (a' := { z41 with f2 := o, f3 := path, f1 := m, f0 := p, f4 := cs, f5 := f }) _ (beB 4 f) (opt (decide (0 < (bs4 cl).length)) (oneB 128 10 (bs4 cl))) 128 9 (decide (f > 0)) (by rw [hAA]) (by omega) (by rw [beB_len]; omega) (fun _ => ?_) (fun h => ?_) ?_
  · unfold payV; rw [if_neg (by decide), if_neg (by decide), if_neg (by decide), if_neg (by decide), if_neg (by decide), if_pos rfl, if_pos (beB_len 4 f), beV4 f hf.1 hf.2]
  · have h := of_decide_eq_false h
    rw [show f = 0 by omega]; rfl
  refine RdsA.step (a' := ⟨p, m, o, path, cs, f, cl⟩) _ (bs4 cl) [] 128 10 (decide (0 < (bs4 cl).length)) (by rw [hAA, List.append_nil]) (by omega) (by omega) (fun _ => ?_) (fun h => ?_) ?_
  · unfold payV
    rw [if_neg (by decide), if_neg (by decide), if_neg (by decide), if_neg (by decide), if_neg (by decide), if_neg (by decide), if_pos rfl, if_pos (by omega), hsL, show 4 * cl.length / 4 = cl.length by omega, nums4 cl hc]; first | done | rfl
  · have h := of_decide_eq_false h
    rw [show cl = [] from List.length_eq_zero_iff.1 (by omega)]; rfl
  rw [← hAA]; exact RdsA.fin _ _
def RdsP (B : List Int) (at_ : Nat) (r : List S25) : Prop := ∃ n, n ≤ B.length - at_ ∧ ∀ k, n ≤ k → prefsV B k at_ = some r
theorem pa_app (D Y : List Int) : ∀ n, n ≤ D.length → pa (D ++ Y) n = pa D n := by
  intro n
  induction n with
  | zero => intro _; rfl
  | succ n ih =>
    intro h; (rw [pa, pa, ih (by omega)])
    congr 2
    rw [List.getD_eq_getElem?_getD, List.getD_eq_getElem?_getD, List.getElem?_append_left (by omega)]
theorem pfx_length (a b : Int) (h : mayB a b = true) : (pfx a b).length = 1 + nb b := by
  obtain ⟨b0, b1, _⟩ := (mayB_iff a b).1 h; have hn := nb_le b b0 b1
  unfold pfx; rw [List.length_cons, List.length_take]; simp [be4]; omega
theorem takeL_at (X Y : List Int) (a b : Int) (ha : isA a) (h : mayB a b = true) : takeL (X ++ pfx a b ++ Y) X.length = (a, b, ((X.length + (pfx a b).length : Nat) : Int), 0) := by
  obtain ⟨b0, b1, b2⟩ := (mayB_iff a b).1 h; have hn := nb_le b b0 b1; have hpl := pfx_length a b h
  have hg : (X ++ pfx a b ++ Y).getD X.length 0 = b := by
    rw [List.append_assoc, List.getD_eq_getElem?_getD, List.getElem?_append_right (Nat.le_refl _)]; simp [pfx]
  have hlen : (X ++ pfx a b ++ Y).length = X.length + (1 + nb b) + Y.length := by rw [List.length_append, List.length_append, hpl]
  have hdr : (X ++ pfx a b ++ Y).drop (X.length + 1) = (be4 a).take (nb b) ++ Y := by
    rw [List.append_assoc, List.drop_append, List.drop_eq_nil_of_le (by omega), List.nil_append, show X.length + 1 - X.length = 1 by omega]; rfl
  unfold takeL
  rw [if_neg (by omega), hg, if_neg (by omega), if_neg (by omega), hdr, pa_app _ _ _ (by rw [List.length_take]; simp [be4]; omega), pa_back a b ha h]
  unfold fin4
  rw [if_pos h, hpl]
  simp; omega
theorem RdsP.of (Y : List S25) : ∀ (X : List Int), (∀ x ∈ Y, isA x.f0 ∧ mayB x.f0 x.f1 = true) → RdsP (X ++ preB Y) X.length Y := by
  induction Y with
  | nil =>
    intro X _; (refine ⟨0, by omega, fun k _ => ?_⟩); (have : (X ++ preB []).length ≤ X.length := by simp [preB])
    cases k <;> rw [prefsV, if_pos this]
  | cons y Y ih =>
    intro X h; (have hy := h y (by simp)); have hpl := pfx_length y.f0 y.f1 hy.2; (obtain ⟨n, h1, h2⟩ := ih (X ++ pfx y.f0 y.f1) (fun x hx => h x (List.mem_cons_of_mem _ hx))); (have e : X ++ preB (y :: Y) = X ++ pfx y.f0 y.f1 ++ preB Y := by unfold preB; rw [List.flatMap_cons, List.append_assoc]); (have hL : (X ++ pfx y.f0 y.f1 ++ preB Y).length = X.length + (pfx y.f0 y.f1).length + (preB Y).length := by rw [List.length_append, List.length_append]); rw [e]; have hl2 : (X ++ pfx y.f0 y.f1).length = X.length + (pfx y.f0 y.f1).length := List.length_append; rw [hl2, hL] at h1; rw [hl2] at h2; (refine ⟨n + 1, by omega, fun k hk => ?_⟩); (obtain ⟨k, rfl⟩ : ∃ m, k = m + 1 := ⟨k - 1, by omega⟩); (rw [prefsV_ok _ k X.length _ _ _ (by omega) (takeL_at X (preB Y) y.f0 y.f1 hy.1 hy.2), h2 k (by omega)])
    rfl
theorem hd_len (kind n : Int) : (wire_framed.hd kind n).length = 19 := rfl
set_option maxRecDepth 100000 in
theorem decV_back (u : S47) (hu : updB u = true) (a0 : ∀ x ∈ u.f0, isA x.f0) (a1 : ∀ x ∈ u.f1, isA x.f0) : decV (encB u) = some u := by
  have hdl := datB_len hu; have hu' := hu
  unfold updB at hu'
  simp only [Bool.and_eq_true] at hu'; obtain ⟨q0, q1, _, q3⟩ := hu'; have r0 := (risesB_all q0).2; have r1 := (risesB_all q1).2; obtain ⟨W, hW⟩ : ∃ W, W = preB u.f0 := ⟨_, rfl⟩; obtain ⟨A, hA⟩ : ∃ A, A = (if u.f1.length = 0 then [] else atB u.f2.f0 u.f2.f1 u.f2.f2 u.f2.f3 u.f2.f4 u.f2.f5 u.f2.f6) := ⟨_, rfl⟩
  have hat : RdsA A z41 0 u.f2 := by
    rw [hA]
    split
    · rename_i hn
      rw [if_pos hn] at q3; (have e := (attC_zero u.f2 z41).1 (by simpa using q3)); rw [e]; exact RdsA.fin [] _
    · rename_i hn
      rw [if_neg hn] at q3; exact attrs_back _ (mayA_of _ q3)
  obtain ⟨B, hB⟩ : ∃ B, B = encB u := ⟨_, rfl⟩; obtain ⟨H, hH⟩ : ∃ H, H = wire_framed.hd 2 (19 + ((datB u).length : Int)) := ⟨_, rfl⟩; (have hHl : H.length = 19 := by rw [hH]; rfl); (have hdd : datB u = beB 2 (W.length : Int) ++ W ++ beB 2 (A.length : Int) ++ A ++ preB u.f1 := by rw [hW, hA]; rfl); (have hBB : B = H ++ (beB 2 (W.length : Int) ++ W ++ beB 2 (A.length : Int) ++ A ++ preB u.f1) := by rw [hB, ← hdd, hH]; rfl); (have hdl2 : (datB u).length = 2 + W.length + 2 + A.length + (preB u.f1).length := by rw [hdd]; simp only [List.length_append, beB_len]); (have hBl : B.length = 19 + (2 + W.length + 2 + A.length + (preB u.f1).length) := by rw [hBB]; simp only [List.length_append, beB_len, hHl])
  have e1 : (B.drop 19).take 2 = beB 2 (W.length : Int) := by
    rw [hBB, ← hHl, List.drop_left]; simp only [List.append_assoc]; rw [List.take_append_of_le_length (by rw [beB_len]; omega), List.take_of_length_le (by rw [beB_len]; omega)]
  (have n1 : (beV ((B.drop 19).take 2)).toNat = W.length := by rw [e1, beV2 _ (by omega) (by omega), Int.toNat_natCast]); (have drop_at : ∀ (X Y : List Int) (n : Nat), X.length = n → (X ++ Y).drop n = Y := fun X Y n h => by rw [← h, List.drop_left])
  have e2 : (B.drop 21).take W.length = W := by
    (have : B = (H ++ beB 2 (W.length : Int)) ++ (W ++ (beB 2 (A.length : Int) ++ A ++ preB u.f1)) := by rw [hBB]; simp only [List.append_assoc]); (rw [this, drop_at _ _ 21 (by rw [List.length_append, hHl, beB_len]), List.take_left])
  have e3 : (B.drop (21 + W.length)).take 2 = beB 2 (A.length : Int) := by
    (have : B = (H ++ beB 2 (W.length : Int) ++ W) ++ (beB 2 (A.length : Int) ++ (A ++ preB u.f1)) := by rw [hBB]; simp only [List.append_assoc]); (rw [this, drop_at _ _ (21 + W.length) (by rw [List.length_append, List.length_append, hHl, beB_len]), List.take_append_of_le_length (by rw [beB_len]; omega), List.take_of_length_le (by rw [beB_len]; omega)])
  have n3 : (beV ((B.drop (21 + W.length)).take 2)).toNat = A.length := by rw [e3, beV2 _ (by omega) (by omega), Int.toNat_natCast]
  have e4 : (B.drop (21 + W.length + 2)).take A.length = A := by
    (have : B = (H ++ beB 2 (W.length : Int) ++ W ++ beB 2 (A.length : Int)) ++ (A ++ preB u.f1) := by rw [hBB]; simp only [List.append_assoc]); (rw [this, drop_at _ _ (21 + W.length + 2) (by rw [List.length_append, List.length_append, List.length_append, hHl, beB_len, beB_len]), List.take_left])
  have p0 : prefsV W W.length 0 = some u.f0 := by
    (obtain ⟨n, h1, h2⟩ := RdsP.of u.f0 [] (fun x hx => ⟨a0 x hx, r0 x hx⟩)); rw [List.nil_append, ← hW] at h1 h2; (exact h2 _ (by simpa using h1))
  have p1 : prefsV B B.length (21 + W.length + 2 + A.length) = some u.f1 := by
    (have : B = (H ++ beB 2 (W.length : Int) ++ W ++ beB 2 (A.length : Int) ++ A) ++ preB u.f1 := by rw [hBB]; simp only [List.append_assoc]); (obtain ⟨n, h1, h2⟩ := RdsP.of u.f1 (H ++ beB 2 (W.length : Int) ++ W ++ beB 2 (A.length : Int) ++ A) (fun x hx => ⟨a1 x hx, r1 x hx⟩)); (rw [← this, show (H ++ beB 2 (W.length : Int) ++ W ++ beB 2 (A.length : Int) ++ A).length = 21 + W.length + 2 + A.length by simp only [List.length_append, hHl, beB_len]] at h1 h2); (exact h2 _ (by omega))
  have pa : attrsV A A.length z41 0 = some u.f2 := by
    obtain ⟨n, h1, h2⟩ := hat; (exact h2 _ (by simpa using h1))
  rw [← hB]
  unfold decV
  rw [n1, n3, if_pos ⟨by omega, by omega, by omega⟩, e2, e4, p0, pa, p1]
  rfl

theorem rBefore_is (a b c d : Int) : whirligigref01_Before.f a b c d = some (decide (a < c ∨ a = c ∧ b < d)) := by
  unfold whirligigref01_Before.f
  split
  · rename_i h; subst h; simp
  · rename_i h; simp [h]
theorem rrisesL_ev (l : List S25) (hl : l.length ≤ 100000) (hok : ∀ x ∈ l, isA x.f0) : ∀ (d i : Nat), l.length - i = d → i ≤ l.length → i ≤ 32 →
    Evt (fun k => whirligigref10_rises.l0 k l (i : Int)) (decide (l.length ≤ 32) && risB (prevP l i) (l.drop i)) := by
  intro d
  induction d with
  | zero =>
    intro i hd hi h32; (rw [List.drop_eq_nil_of_le (by omega), decide_eq_true (by omega)]); refine Evt.step ?_; simp only [whirligigref10_rises.l0]; (exact Evt.ite_neg (by omega) (Evt.of fun k => by cases prevP l i <;> rfl))
  | succ d ih =>
    intro i hd hi h32; (obtain ⟨x, hxm, hx, hdr⟩ := pat (l := l) (i := i) (by omega)); have hxa := hok x hxm; refine Evt.step ?_; simp only [whirligigref10_rises.l0]; (refine Evt.ite_pos (by omega) ?_)
    by_cases hge : i = 32
    · rw [decide_eq_false (by omega)]
      exact Evt.ite_pos (by omega) (Evt.of fun k => rfl)
    (have hn := ih (i + 1) (by omega) (by omega) (by omega)); rw [prevP_succ, hx] at hn; rw [hdr]; (refine Evt.ite_neg (by omega) (Evt.ite_pos (by omega) ?_)); rw [rdP_at hx]; refine Evt.bind (refMay_ev _ _ hxa) ?_; simp only [risB]
    by_cases hm : mayB x.f0 x.f1 = true
    · refine Evt.ite_pos hm ?_
      rw [hm, Bool.true_and, wrap64_in ((i : Int) + 1) (by omega) (by omega)]
      by_cases h0 : i = 0
      · subst h0
        refine Evt.ite_neg (by omega) ?_
        simpa [prevP] using hn
      · obtain ⟨q, hqm, hq, _⟩ := pat (l := l) (i := i - 1) (by omega)
        (have hpq : prevP l i = some q := by unfold prevP; rw [if_neg h0, hq]); (rw [hpq, wrap64_in ((i : Int) - 1) (by omega) (by omega), show ((i : Int) - 1) = ((i - 1 : Nat) : Int) by omega]); (refine Evt.ite_pos (by omega) (Evt.ite_pos (by omega) (Evt.ite_pos (by omega) ?_))); rw [rdP_at hq]; refine Evt.bindc (rBefore_is _ _ _ _) ?_
        show Evt _ (decide (l.length ≤ 32) && (befB q x && risB (some x) (l.drop (i + 1))))
        by_cases hb : befB q x = true
        · rw [hb, Bool.true_and]
          exact Evt.ite_pos hb (by simpa using hn)
        · refine Evt.ite_neg hb (Evt.of fun k => ?_)
          rw [Bool.eq_false_iff.mpr hb]; simp
    · refine Evt.ite_neg hm (Evt.of fun k => ?_)
      rw [Bool.eq_false_iff.mpr hm]; simp
theorem rrises_ev (l : List S25) (hl : l.length ≤ 100000) (hok : ∀ x ∈ l, isA x.f0) : Evt (fun k => whirligigref10_rises.f k l) (risesB l) := rrisesL_ev l hl hok l.length 0 (by omega) (by omega) (by omega)
theorem rMayU_ev (u : S47) (h : FewU u 100000) : Evt (fun k => whirligigref10_May.f k u.f0 u.f1 u.f2.f0 u.f2.f1 u.f2.f2 u.f2.f3 u.f2.f4 u.f2.f5 u.f2.f6) (updB u) := by
  have hw := h.w; have ht := h.t; have e0 := rrises_ev u.f0 h.w h.a0; have e1 := rrises_ev u.f1 h.t h.a1
  have es : Evt (fun k => whirligigref09_Same.f k u.f2.f0 u.f2.f1 u.f2.f2 u.f2.f3 u.f2.f4 u.f2.f5 u.f2.f6 0 0 0 ([] : List Int) ([] : List S102) 0 ([] : List Int)) (attC u.f2 z41 == 0) := by
    unfold whirligigref09_Same.f
    exact Evt.bind (refCmp_ev u.f2 z41 h.p h.l h.c) (Evt.pure _)
  have em := refMay9_ev u.f2.f0 u.f2.f1 u.f2.f2 u.f2.f3 u.f2.f4 u.f2.f5 u.f2.f6 h.p h.c h.l; (have jt : Evt (fun k => whirligigref10_May.j0 k true u.f0 u.f1 u.f2.f0 u.f2.f1 u.f2.f2 u.f2.f3 u.f2.f4 u.f2.f5 u.f2.f6) false := Evt.step (by simp only [whirligigref10_May.j0]; exact Evt.ite_pos (by first | rfl | trivial) (Evt.pure _)))
  have jf : ∀ b : Bool, b = decide (u.f0.length + u.f1.length = 0) → Evt (fun k => whirligigref10_May.j0 k b u.f0 u.f1 u.f2.f0 u.f2.f1 u.f2.f2 u.f2.f3 u.f2.f4 u.f2.f5 u.f2.f6) (!b && (if u.f1.length = 0 then attC u.f2 z41 == 0 else mayAB u.f2.f0 u.f2.f1 u.f2.f2 u.f2.f3 u.f2.f4 u.f2.f5 u.f2.f6)) := by
    intro b hb
    cases b with
    | true => exact jt
    | false =>
      refine Evt.step ?_; simp only [whirligigref10_May.j0]; (refine Evt.ite_neg (by simp) ?_)
      by_cases hn : u.f1.length = 0
      · simp only [hn, if_true, Bool.true_and, Bool.not_false]
        exact Evt.ite_neg (by omega) (Evt.bind es (Evt.pure _))
      · simp only [hn, if_false, Bool.true_and, Bool.not_false]
        exact Evt.ite_pos (by omega) (Evt.bind em (Evt.pure _))
  unfold whirligigref10_May.f updB
  cases h0 : risesB u.f0 with
  | false => rw [h0] at e0; exact Evt.bind e0 (Evt.ite_neg (by simp) jt)
  | true =>
    rw [h0] at e0; refine Evt.bind e0 (Evt.ite_pos rfl ?_)
    cases h1 : risesB u.f1 with
    | false => rw [h1] at e1; exact Evt.bind e1 (Evt.ite_neg (by simp) jt)
    | true =>
      rw [h1] at e1; refine Evt.bind e1 (Evt.ite_pos rfl ?_); rw [Bool.true_and, Bool.true_and]
      by_cases hz : u.f0.length = 0
      · have hb : ((u.f1.length : Int) == 0) = decide (u.f0.length + u.f1.length = 0) := by
          rw [hz, Nat.zero_add, Bool.eq_iff_iff, beq_iff_eq, decide_eq_true_eq]; omega
        (refine Evt.ite_pos (by omega) ?_); rw [← hb]; exact jf _ hb
      · have hb : false = decide (u.f0.length + u.f1.length = 0) := (decide_eq_false (by omega)).symm
        (refine Evt.ite_neg (by omega) ?_); rw [← hb]; exact jf _ hb
theorem son_emp (l : List Int) : (strOfNums l).toList = [] ↔ l = [] := by
  rw [ByteArray.toList_eq, strOfNums_data, List.map_eq_nil_iff]
theorem div_step (n : Int) (i : Nat) (h : i < 4) : n / 256 ^ i / 256 = n / 256 ^ (i + 1) := by
  match i, h with
  | 0, _ => simp
  | 1, _ => simp; omega
  | 2, _ => simp; omega
  | 3, _ => simp; omega
theorem div_rng (n : Int) (h0 : 0 ≤ n) (h1 : n ≤ 9223372036854775807) (i : Nat) (h : i ≤ 4) : 0 ≤ n / 256 ^ i ∧ n / 256 ^ i ≤ 9223372036854775807 := by
  match i, h with
  | 0, _ => simp; omega
  | 1, _ => simp; omega
  | 2, _ => simp; omega
  | 3, _ => simp; omega
  | 4, _ => simp; omega
theorem rNumL_ev (n : Int) (h0 : 0 ≤ n) (h1 : n ≤ 9223372036854775807) (j : Nat) (hj : j ≤ 4) : ∀ (d i : Nat), j - i = d → i ≤ j →
    Evt (fun k => whirligigref10_Number.l0 k (n / 256 ^ i) (j : Int) (strOfNums (beB i n)) (i : Int)) (strOfNums (beB j n)) := by
  intro d
  induction d with
  | zero =>
    intro i hd hi; (obtain rfl : i = j := by omega); refine Evt.step ?_; simp only [whirligigref10_Number.l0]; (exact Evt.ite_neg (by omega) (Evt.pure _))
  | succ d ih =>
    intro i hd hi; (have hr := div_rng n h0 h1 i (by omega)); (have hr2 := div_rng n h0 h1 (i + 1) (by omega)); (have hn := ih (i + 1) (by omega) (by omega)); refine Evt.step ?_; simp only [whirligigref10_Number.l0]; (refine Evt.ite_pos (by omega) (Evt.bindc rfl ?_)); (rw [Int.tmod_eq_emod_of_nonneg hr.1, Int.tdiv_eq_ediv_of_nonneg hr.1, div_step n i (by omega), wrap64_in (n / 256 ^ (i + 1)) (by omega) (by omega), wrap64_in ((i : Int) + 1) (by omega) (by omega), show n / 256 ^ i % 256 % 256 = n / 256 ^ i % 256 by omega, son_app]); (refine Evt.ite_pos (by rw [strOfNums_size, strOfNums_size, beB_len]; simp; omega) ?_); exact hn
theorem rNum_ev (n : Int) (h0 : 0 ≤ n) (h1 : n ≤ 9223372036854775807) (j : Nat) (hj : j ≤ 4) : Evt (fun k => whirligigref10_Number.f k n (j : Int)) (strOfNums (beB j n)) := by
  (have := rNumL_ev n h0 h1 j hj j 0 (by omega) (by omega)); (rw [show n / 256 ^ 0 = n by simp] at this); exact this
theorem rone_is (a b : Int) (l : List Int) (ha : 0 ≤ a ∧ a < 256) (hb : 0 ≤ b ∧ b < 256) (hl : l.length ≤ 1000000) : whirligigref10_one.f a b (strOfNums l) = some (strOfNums (oneB a b l)) := by
  unfold whirligigref10_one.f oneB
  simp only [Option.bind_some]; (rw [strOfNums_size, strOfNums_size, Int.emod_eq_of_lt ha.1 ha.2, Int.emod_eq_of_lt hb.1 hb.2, son_app, if_pos (by simp; omega)])
theorem rpreL_ev (l : List S25) (hl : l.length ≤ 100) (hok : ∀ x ∈ l, isA x.f0) (hm : ∀ x ∈ l, mayB x.f0 x.f1 = true) : ∀ (d i : Nat) (x3 : List Int), l.length - i = d → i ≤ l.length → x3.length ≤ 5 * i →
    Evt (fun k => whirligigref10_prefixes.l0 k l (strOfNums x3) (i : Int)) (strOfNums (x3 ++ preB (l.drop i))) := by
  intro d
  induction d with
  | zero =>
    intro i x3 hd hi h3; (rw [List.drop_eq_nil_of_le (by omega), show preB [] = [] from rfl, List.append_nil]); refine Evt.step ?_; simp only [whirligigref10_prefixes.l0]; (exact Evt.ite_neg (by omega) (Evt.pure _))
  | succ d ih =>
    intro i x3 hd hi h3; (obtain ⟨x, hxm, hx, hdr⟩ := pat (l := l) (i := i) (by omega)); obtain ⟨b0, b1, _⟩ := (mayB_iff _ _).1 (hm x hxm); have hp := rPrefix_ev x.f0 x.f1 (hok x hxm) b0 b1; have hpl := pfxL x.f0 x.f1; (have r1 := ih (i + 1) (x3 ++ pfx x.f0 x.f1) (by omega) (by omega) (by rw [List.length_append]; omega)); rw [List.append_assoc] at r1; rw [hdr, show preB (x :: l.drop (i + 1)) = pfx x.f0 x.f1 ++ preB (l.drop (i + 1)) from rfl]; refine Evt.step ?_; simp only [whirligigref10_prefixes.l0]; (refine Evt.ite_pos (by omega) (Evt.ite_pos (by omega) ?_)); rw [rdP_at hx]; (refine Evt.bind hp (Evt.ite_pos (by rw [strOfNums_size, strOfNums_size]; omega) ?_)); (rw [wrap64_in _ (by omega) (by omega), son_app]); exact r1
theorem rpre_ev (l : List S25) (hl : l.length ≤ 100) (hok : ∀ x ∈ l, isA x.f0) (hm : ∀ x ∈ l, mayB x.f0 x.f1 = true) : Evt (fun k => whirligigref10_prefixes.f k l) (strOfNums (preB l)) := by
  (have := rpreL_ev l hl hok hm l.length 0 [] (by omega) (by omega) (by simp)); exact this
section
variable (p m o : Int) (path : List Int) (cs : List S102) (f : Int) (cl : List Int)
theorem ra_j5 (hf : 0 ≤ f ∧ f < 4294967296) (x5 x9 : List Int) (h5 : x5.length ≤ 10000) (h9 : x9.length ≤ 10000) : Evt (fun k => whirligigref10_attributes.j5 k (strOfNums x5) (strOfNums x9) p m o path cs f cl) (strOfNums (fin5 f x9 x5)) := by
  have tail : ∀ y : List Int, y.length ≤ 20000 → Evt (fun k => if (strOfNums x5).toList = ([] : List UInt8) then (some (strOfNums y)) else ((whirligigref10_one.f 128 10 (strOfNums x5)).bind fun t417 => (if (strOfNums y).size + t417.size ≤ 9223372036854775807 then (some (strOfNums y ++ t417)) else (none)))) (strOfNums (y ++ opt (decide (0 < x5.length)) (oneB 128 10 x5))) := by
    intro y hy
    by_cases h : 0 < x5.length
    · rw [decide_eq_true h]
      (refine Evt.ite_neg (by rw [son_emp]; intro e; rw [e] at h; simp at h) (Evt.bindc (rone_is 128 10 x5 (by omega) (by omega) (by omega)) (Evt.ite_pos (by rw [strOfNums_size, strOfNums_size, oneB_len]; omega) ?_))); rw [son_app]; exact Evt.pure _
    · rw [decide_eq_false h]
      exact Evt.ite_pos (by rw [son_emp]; exact List.length_eq_zero_iff.1 (by omega)) (Evt.of fun k => by simp [opt])
  refine Evt.step ?_; simp only [whirligigref10_attributes.j5]
  unfold fin5
  by_cases h0 : f > 0
  · rw [decide_eq_true h0]
    (have t := tail (x9 ++ opt true (oneB 128 9 (beB 4 f))) (by rw [List.length_append, show opt true (oneB 128 9 (beB 4 f)) = oneB 128 9 (beB 4 f) from rfl, oneB_len, beB_len]; omega)); (refine Evt.ite_neg (by omega) (Evt.bind (rNum_ev f hf.1 (by omega) 4 (by omega)) (Evt.bindc (rone_is 128 9 _ (by omega) (by omega) (by rw [beB_len]; omega)) (Evt.ite_pos (by rw [strOfNums_size, strOfNums_size, oneB_len, beB_len]; omega) ?_)))); rw [son_app]; exact t
  · rw [decide_eq_false h0]
    (have t := tail x9 (by omega)); (refine Evt.ite_pos (by omega) ?_)
    simpa [opt] using t
theorem ra_j4 (hp : 0 ≤ p ∧ p < 4294967296) (hf : 0 ≤ f ∧ f < 4294967296) (x4 x5 x9 : List Int) (h4 : x4.length ≤ 1000) (h5 : x5.length ≤ 1000) (h9 : x9.length ≤ 1000) : Evt (fun k => whirligigref10_attributes.j4 k (strOfNums x4) (strOfNums x5) (strOfNums x9) p m o path cs f cl) (strOfNums (fin2 f (x9 ++ oneB 64 5 (beB 4 p)) x4 x5)) := by
  refine Evt.step ?_; simp only [whirligigref10_attributes.j4]
  unfold fin2
  (refine Evt.bind (rNum_ev p hp.1 (by omega) 4 (by omega)) (Evt.bindc (rone_is 64 5 _ (by omega) (by omega) (by rw [beB_len]; omega)) (Evt.ite_pos (by rw [strOfNums_size, strOfNums_size, oneB_len, beB_len]; omega) ?_))); rw [son_app]
  by_cases h : 0 < x4.length
  · rw [decide_eq_true h]
    (refine Evt.ite_neg (by rw [son_emp]; intro e; rw [e] at h; simp at h) (Evt.bindc (rone_is 192 8 x4 (by omega) (by omega) (by omega)) (Evt.ite_pos (by rw [strOfNums_size, strOfNums_size, List.length_append, oneB_len, oneB_len, beB_len]; omega) ?_))); rw [son_app]; (exact ra_j5 p m o path cs f cl hf x5 _ (by omega) (by simp only [List.length_append, oneB_len, beB_len]; omega))
  · rw [decide_eq_false h]
    (refine Evt.ite_pos (by rw [son_emp]; exact List.length_eq_zero_iff.1 (by omega)) ?_); (have := ra_j5 p m o path cs f cl hf x5 (x9 ++ oneB 64 5 (beB 4 p)) (by omega) (by simp only [List.length_append, oneB_len, beB_len]; omega))
    simpa [opt] using this
theorem ra_l2 (hp : 0 ≤ p ∧ p < 4294967296) (hm : 0 ≤ m ∧ m < 4294967296) (ho : 0 ≤ o ∧ o < 256) (hf : 0 ≤ f ∧ f < 4294967296) (hcl : cl.length ≤ 100) (hcv : ∀ x ∈ cl, 0 ≤ x ∧ x < 65536) (x3 x4 : List Int) (h3 : x3.length ≤ 500) (h4 : x4.length ≤ 1000) : ∀ (d i : Nat) (x5 : List Int), cl.length - i = d → i ≤ cl.length → x5.length ≤ 4 * i →
    Evt (fun k => whirligigref10_attributes.l2 k (strOfNums x3) (strOfNums x4) (strOfNums x5) (i : Int) p m o path cs f cl) (strOfNums (fin2 f (oneB 64 1 [o % 256] ++ oneB 64 2 x3 ++ opt (decide (m > 0)) (oneB 128 4 (beB 4 m)) ++ oneB 64 5 (beB 4 p)) x4 (x5 ++ bs4 (cl.drop i)))) := by
  intro d
  induction d with
  | zero =>
    intro i x5 hd hi h5; (rw [List.drop_eq_nil_of_le (by omega), show bs4 [] = [] from rfl, List.append_nil]); refine Evt.step ?_; simp only [whirligigref10_attributes.l2]; (have e1 : beB 1 o = [o % 256] := by simp [beB]); (have n1 := rNum_ev o ho.1 (by omega) 1 (by omega)); rw [e1] at n1; (refine Evt.ite_neg (by omega) (Evt.bind n1 (Evt.bindc (rone_is 64 1 _ (by omega) (by omega) (by simp)) (Evt.bindc (rone_is 64 2 x3 (by omega) (by omega) (by omega)) (Evt.ite_pos (by rw [strOfNums_size, strOfNums_size, oneB_len, oneB_len]; simp; omega) ?_))))); rw [son_app]
    by_cases h : m > 0
    · rw [decide_eq_true h]
      (refine Evt.ite_neg (by omega) (Evt.bind (rNum_ev m hm.1 (by omega) 4 (by omega)) (Evt.bindc (rone_is 128 4 _ (by omega) (by omega) (by rw [beB_len]; omega)) (Evt.ite_pos (by rw [strOfNums_size, strOfNums_size, List.length_append, oneB_len, oneB_len, oneB_len, beB_len]; simp; omega) ?_)))); rw [son_app]; (exact ra_j4 p m o path cs f cl hp hf x4 x5 _ h4 (by omega) (by simp only [List.length_append, oneB_len, beB_len, List.length_cons, List.length_nil]; omega))
    · rw [decide_eq_false h]
      (refine Evt.ite_pos (by omega) ?_); (have := ra_j4 p m o path cs f cl hp hf x4 x5 (oneB 64 1 [o % 256] ++ oneB 64 2 x3) h4 (by omega) (by simp only [List.length_append, oneB_len, beB_len, List.length_cons, List.length_nil]; omega))
      simpa [opt] using this
  | succ d ih =>
    intro i x5 hd hi h5; (obtain ⟨x, hxm, hx, hdr⟩ := pat (l := cl) (i := i) (by omega)); have hxv := hcv x hxm; (have r1 := ih (i + 1) (x5 ++ beB 4 x) (by omega) (by omega) (by rw [List.length_append, beB_len]; omega)); rw [List.append_assoc x5] at r1; rw [hdr, show bs4 (x :: cl.drop (i + 1)) = beB 4 x ++ bs4 (cl.drop (i + 1)) from rfl]; refine Evt.step ?_; simp only [whirligigref10_attributes.l2]; rw [rd_at hx]; (refine Evt.ite_pos (by omega) (Evt.ite_pos (by omega) (Evt.bind (rNum_ev x hxv.1 (by omega) 4 (by omega)) (Evt.ite_pos (by rw [strOfNums_size, strOfNums_size, beB_len]; omega) ?_)))); (rw [wrap64_in _ (by omega) (by omega), son_app]); exact r1
theorem ra_l1 (hp : 0 ≤ p ∧ p < 4294967296) (hm : 0 ≤ m ∧ m < 4294967296) (ho : 0 ≤ o ∧ o < 256) (hf : 0 ≤ f ∧ f < 4294967296) (hcl : cl.length ≤ 100) (hcv : ∀ x ∈ cl, 0 ≤ x ∧ x < 65536) (hcs : cs.length ≤ 100) (hcsv : ∀ x ∈ cs, (0 ≤ x.f0 ∧ x.f0 < 65536) ∧ 0 ≤ x.f1 ∧ x.f1 < 65536) (x3 : List Int) (h3 : x3.length ≤ 500) : ∀ (d i : Nat) (x4 : List Int), cs.length - i = d → i ≤ cs.length → x4.length ≤ 4 * i →
    Evt (fun k => whirligigref10_attributes.l1 k (strOfNums x3) (strOfNums x4) (strOfNums []) (i : Int) p m o path cs f cl) (strOfNums (fin2 f (oneB 64 1 [o % 256] ++ oneB 64 2 x3 ++ opt (decide (m > 0)) (oneB 128 4 (beB 4 m)) ++ oneB 64 5 (beB 4 p)) (x4 ++ bsC (cs.drop i)) (bs4 cl))) := by
  intro d
  induction d with
  | zero =>
    intro i x4 hd hi h4; (rw [List.drop_eq_nil_of_le (by omega), show bsC [] = [] from rfl, List.append_nil]); refine Evt.step ?_; simp only [whirligigref10_attributes.l1]; (have := ra_l2 p m o path cs f cl hp hm ho hf hcl hcv x3 x4 h3 (by omega) cl.length 0 [] (by omega) (by omega) (by simp)); (exact Evt.ite_neg (by omega) this)
  | succ d ih =>
    intro i x4 hd hi h4; (obtain ⟨x, hxm, hx, hdr⟩ := pat (l := cs) (i := i) (by omega)); have hxv := hcsv x hxm; (have r1 := ih (i + 1) (x4 ++ beB 2 x.f0 ++ beB 2 x.f1) (by omega) (by omega) (by rw [List.length_append, List.length_append, beB_len, beB_len]; omega)); (have e : x4 ++ (beB 2 x.f0 ++ beB 2 x.f1 ++ bsC (cs.drop (i + 1))) = x4 ++ beB 2 x.f0 ++ beB 2 x.f1 ++ bsC (cs.drop (i + 1)) := by simp); rw [hdr, show bsC (x :: cs.drop (i + 1)) = beB 2 x.f0 ++ beB 2 x.f1 ++ bsC (cs.drop (i + 1)) from rfl, e]; refine Evt.step ?_; simp only [whirligigref10_attributes.l1]; rw [rdC_at hx]; (refine Evt.ite_pos (by omega) (Evt.ite_pos (by omega) (Evt.bind (rNum_ev x.f0 hxv.1.1 (by omega) 2 (by omega)) (Evt.ite_pos (by rw [strOfNums_size, strOfNums_size, beB_len]; omega) ?_)))); rw [son_app]; (refine Evt.bind (rNum_ev x.f1 hxv.2.1 (by omega) 2 (by omega)) (Evt.ite_pos (by rw [strOfNums_size, strOfNums_size, List.length_append, beB_len, beB_len]; omega) ?_)); (rw [wrap64_in _ (by omega) (by omega), son_app]); exact r1
theorem ra_l0 (hp : 0 ≤ p ∧ p < 4294967296) (hm : 0 ≤ m ∧ m < 4294967296) (ho : 0 ≤ o ∧ o < 256) (hf : 0 ≤ f ∧ f < 4294967296) (hcl : cl.length ≤ 100) (hcv : ∀ x ∈ cl, 0 ≤ x ∧ x < 65536) (hcs : cs.length ≤ 100) (hcsv : ∀ x ∈ cs, (0 ≤ x.f0 ∧ x.f0 < 65536) ∧ 0 ≤ x.f1 ∧ x.f1 < 65536) (hpl : path.length ≤ 100) (hpv : ∀ x ∈ path, 0 ≤ x ∧ x < 65536) : ∀ (d i : Nat) (x3 : List Int), path.length - i = d → i ≤ path.length → x3.length = 2 * i → x3 ++ bs2 (path.drop i) = bs2 path →
    Evt (fun k => whirligigref10_attributes.l0 k (strOfNums x3) (strOfNums []) (strOfNums []) (i : Int) p m o path cs f cl) (strOfNums (atB p m o path cs f cl)) := by
  intro d
  induction d with
  | zero =>
    intro i x3 hd hi h3 hx3; (rw [List.drop_eq_nil_of_le (by omega), show bs2 [] = [] from rfl, List.append_nil] at hx3); refine Evt.step ?_; simp only [whirligigref10_attributes.l0]
    unfold atB pathBy
    by_cases h : 0 < path.length
    · rw [if_pos h]
      refine Evt.ite_neg (by omega) (Evt.ite_neg (by rw [son_emp]; intro e; rw [e] at h3; simp at h3; omega) (Evt.bindc rfl (Evt.ite_pos (by rw [strOfNums_size]; simp) (Evt.ite_pos ?_ (Evt.step ?_)))))
      · rw [show (⟨#[2]⟩ : ByteArray) = strOfNums [2] from rfl, son_app, strOfNums_size, strOfNums_size]; simp; omega
      · simp only [whirligigref10_attributes.j1]
        rw [show (⟨#[2]⟩ : ByteArray) = strOfNums [2] from rfl, son_app, son_app, hx3]; (exact ra_l1 p m o path cs f cl hp hm ho hf hcl hcv hcs hcsv ([2, (path.length : Int) % 256] ++ bs2 path) (by rw [List.length_append, bs2_len]; simp; omega) cs.length 0 [] (by omega) (by omega) (by simp))
    · rw [if_neg h]
      (have hn : path = [] := List.length_eq_zero_iff.1 (by omega)); (have hx : x3 = [] := List.length_eq_zero_iff.1 (by omega)); (refine Evt.ite_neg (by omega) (Evt.ite_pos (by rw [son_emp]; exact hx) (Evt.step ?_))); simp only [whirligigref10_attributes.j1]; rw [hx3]; (exact ra_l1 p m o path cs f cl hp hm ho hf hcl hcv hcs hcsv (bs2 path) (by rw [bs2_len]; omega) cs.length 0 [] (by omega) (by omega) (by simp))
  | succ d ih =>
    intro i x3 hd hi h3 hx3; (obtain ⟨x, hxm, hx, hdr⟩ := pat (l := path) (i := i) (by omega)); have hxv := hpv x hxm; rw [hdr, show bs2 (x :: path.drop (i + 1)) = beB 2 x ++ bs2 (path.drop (i + 1)) from rfl] at hx3; (have r1 := ih (i + 1) (x3 ++ beB 2 x) (by omega) (by omega) (by rw [List.length_append, beB_len]; omega) (by rw [List.append_assoc]; exact hx3)); refine Evt.step ?_; simp only [whirligigref10_attributes.l0]; rw [rd_at hx]; (refine Evt.ite_pos (by omega) (Evt.ite_pos (by omega) (Evt.bind (rNum_ev x hxv.1 (by omega) 2 (by omega)) (Evt.ite_pos (by rw [strOfNums_size, strOfNums_size, beB_len]; omega) ?_)))); (rw [wrap64_in _ (by omega) (by omega), son_app]); exact r1
end
theorem rAtt_ev (a : S41) (H : MayA a) : Evt (fun k => whirligigref10_attributes.f k a.f0 a.f1 a.f2 a.f3 a.f4 a.f5 a.f6) (strOfNums (atB a.f0 a.f1 a.f2 a.f3 a.f4 a.f5 a.f6)) :=
  ra_l0 a.f0 a.f1 a.f2 a.f3 a.f4 a.f5 a.f6 H.p H.m H.o H.f (by have := H.sl; omega) H.clus (by have := H.cl; omega) H.comms (by have := H.pl; omega) H.path a.f3.length 0 [] (by omega) (by omega) (by simp) rfl
theorem rFrameL_ev (kind : Int) (hk : 0 ≤ kind ∧ kind < 256) (D : List Int) (hD : D.length ≤ 10000) : ∀ (d i : Nat), 16 - i = d → i ≤ 16 →
    Evt (fun k => whirligigref10_Framed.l0 k kind (strOfNums D) (strOfNums (List.replicate i 255)) (i : Int)) (strOfNums (wire_framed.hd kind (19 + (D.length : Int)) ++ D)) := by
  intro d
  induction d with
  | zero =>
    intro i hd hi; (obtain rfl : i = 16 := by omega); refine Evt.step ?_; simp only [whirligigref10_Framed.l0]; (rw [strOfNums_size D, wrap64_in (19 + (D.length : Int)) (by omega) (by omega)]); (have e1 : beB 1 kind = [kind] := by simp [beB]; omega); (have n1 := rNum_ev kind hk.1 (by omega) 1 (by omega)); rw [e1] at n1; (have e2 : beB 2 (19 + (D.length : Int)) = [(19 + (D.length : Int)) / 256 % 256, (19 + (D.length : Int)) % 256] := by simp [beB]); (have n2 := rNum_ev (19 + (D.length : Int)) (by omega) (by omega) 2 (by omega)); rw [e2] at n2; (refine Evt.ite_neg (by omega) (Evt.bind n2 (Evt.ite_pos (by rw [strOfNums_size, strOfNums_size]; simp) (Evt.bind n1 (Evt.ite_pos ?_ (Evt.ite_pos ?_ ?_))))))
    · rw [son_app, strOfNums_size, strOfNums_size]; simp
    · rw [son_app, son_app, strOfNums_size]; simp; omega
    · rw [son_app, son_app, son_app]
      exact Evt.pure _
  | succ d ih =>
    intro i hd hi; (have r1 := ih (i + 1) (by omega) (by omega)); refine Evt.step ?_; simp only [whirligigref10_Framed.l0]; (refine Evt.ite_pos (by omega) (Evt.ite_pos (by rw [strOfNums_size]; simp; omega) ?_)); (rw [wrap64_in _ (by omega) (by omega), show (⟨#[255]⟩ : ByteArray) = strOfNums [255] from rfl, son_app, ← List.replicate_succ']); exact r1
theorem rFrame_ev (kind : Int) (hk : 0 ≤ kind ∧ kind < 256) (D : List Int) (hD : D.length ≤ 10000) : Evt (fun k => whirligigref10_Framed.f k kind (strOfNums D)) (strOfNums (wire_framed.hd kind (19 + (D.length : Int)) ++ D)) := rFrameL_ev kind hk D hD 16 0 (by omega) (by omega)
theorem rEnc_ev (u : S47) (hu : updB u = true) (a0 : ∀ x ∈ u.f0, isA x.f0) (a1 : ∀ x ∈ u.f1, isA x.f0) : Evt (fun k => whirligigref10_Encode.f k u.f0 u.f1 u.f2.f0 u.f2.f1 u.f2.f2 u.f2.f3 u.f2.f4 u.f2.f5 u.f2.f6) (strOfNums (encB u)) := by
  have hdl := datB_len hu; obtain ⟨l0, l1, l2, l3, l4⟩ := updB_few hu; have hu' := hu
  unfold updB at hu'
  simp only [Bool.and_eq_true] at hu'; obtain ⟨q0, q1, _, q3⟩ := hu'; have r0 := (risesB_all q0).2; have r1 := (risesB_all q1).2; (have w0 := rpre_ev u.f0 (by omega) a0 r0); (have w1 := rpre_ev u.f1 (by omega) a1 r1); have p0 := preB_len u.f0; have p1 := preB_len u.f1
  have j : ∀ A : List Int, A = (if u.f1.length = 0 then [] else atB u.f2.f0 u.f2.f1 u.f2.f2 u.f2.f3 u.f2.f4 u.f2.f5 u.f2.f6) → Evt (fun k => whirligigref10_Encode.j0 k (strOfNums (preB u.f0)) (strOfNums A) u.f0 u.f1 u.f2.f0 u.f2.f1 u.f2.f2 u.f2.f3 u.f2.f4 u.f2.f5 u.f2.f6) (strOfNums (encB u)) := by
    intro A hA; (have hdd : datB u = beB 2 ((preB u.f0).length : Int) ++ preB u.f0 ++ beB 2 (A.length : Int) ++ A ++ preB u.f1 := by rw [hA]; rfl); (have hAl : (datB u).length = 2 + (preB u.f0).length + 2 + A.length + (preB u.f1).length := by rw [hdd]; simp only [List.length_append, beB_len]); refine Evt.step ?_; simp only [whirligigref10_Encode.j0]; rw [strOfNums_size, strOfNums_size]; (have hfr := rFrame_ev 2 (by omega) (datB u) (by omega)); rw [hdd] at hfr
    unfold encB
    rw [hdd]; (refine Evt.bind (rNum_ev ((preB u.f0).length : Int) (by omega) (by omega) 2 (by omega)) (Evt.ite_pos (by rw [strOfNums_size, beB_len]; omega) (Evt.bind (rNum_ev (A.length : Int) (by omega) (by omega) 2 (by omega)) (Evt.ite_pos ?_ (Evt.ite_pos ?_ (Evt.bind w1 (Evt.ite_pos ?_ (Evt.bind ?_ (Evt.pure _)))))))))
    · rw [son_app, strOfNums_size, strOfNums_size]; simp only [List.length_append, beB_len]; omega
    · rw [son_app, son_app, strOfNums_size]; simp only [List.length_append, beB_len]; omega
    · rw [son_app, son_app, son_app, strOfNums_size, strOfNums_size]; simp only [List.length_append, beB_len]; omega
    · rw [son_app, son_app, son_app, son_app]
      exact hfr
  unfold whirligigref10_Encode.f
  refine Evt.bind w0 ?_
  by_cases hn : u.f1.length = 0
  · exact Evt.ite_neg (by omega) (j [] (by rw [if_pos hn]))
  · rw [if_neg hn] at q3
    exact Evt.ite_pos (by omega) (Evt.bind (rAtt_ev u.f2 (mayA_of _ q3)) (j _ (by rw [if_neg hn])))
theorem rSameL_ev (l : List S25) (hl : l.length ≤ 100000) : ∀ (d i : Nat), l.length - i = d → i ≤ l.length → Evt (fun k => whirligigref01_Same.l0 k l l (i : Int)) true := by
  intro d
  induction d with
  | zero =>
    intro i hd hi; refine Evt.step ?_; simp only [whirligigref01_Same.l0]; (exact Evt.ite_neg (by omega) (Evt.pure _))
  | succ d ih =>
    intro i hd hi; refine Evt.step ?_; simp only [whirligigref01_Same.l0]; (refine Evt.ite_pos (by omega) (Evt.ite_pos (by omega) (Evt.ite_pos (by omega) (Evt.ite_neg (by simp) ?_)))); (rw [wrap64_in _ (by omega) (by omega)]); (exact ih (i + 1) (by omega) (by omega))
theorem rSame_ev (u : S47) (h : FewU u 100000) : Evt (fun k => whirligigref10_Same.f k u.f0 u.f1 u.f2.f0 u.f2.f1 u.f2.f2 u.f2.f3 u.f2.f4 u.f2.f5 u.f2.f6 u.f0 u.f1 u.f2.f0 u.f2.f1 u.f2.f2 u.f2.f3 u.f2.f4 u.f2.f5 u.f2.f6) true := by
  have s : ∀ l : List S25, l.length ≤ 100000 → Evt (fun k => whirligigref01_Same.f k l l) true := fun l hl => by
    unfold whirligigref01_Same.f
    exact Evt.ite_pos rfl (rSameL_ev l hl l.length 0 (by omega) (by omega))
  have c := refCmp_ev u.f2 u.f2 h.p h.l h.c; rw [(attC_zero u.f2 u.f2).2 rfl] at c
  unfold whirligigref10_Same.f whirligigref09_Same.f
  exact Evt.bind (s _ h.w) (Evt.ite_pos rfl (Evt.bind (s _ h.t) (Evt.ite_pos rfl (Evt.bind (Evt.bind c (Evt.pure _)) (Evt.pure _)))))


def zU : S47 := ⟨[], [], z41⟩

def uc (u : S47) (A0 A1 A3 A4 A6 : Option Addr) (c0 c1 c3 c4 c6 : Nat) : Array Value := #[.slice A0 u.f0.length c0, .slice A1 u.f1.length c1, .int .i64 u.f2.f0, .int .i64 u.f2.f1, .int .i64 u.f2.f2, .slice A3 u.f2.f3.length c3, .slice A4 u.f2.f4.length c4, .int .i64 u.f2.f5, .slice A6 u.f2.f6.length c6]

structure UpdC (w : World) (u : S47) (A0 A1 A3 A4 A6 : Option Addr) (c0 c1 c3 c4 c6 : Nat) : Prop where
  r0 : Kd.C k25 w A0 u.f0.length u.f0
  l0 : u.f0.length ≤ c0
  r1 : Kd.C k25 w A1 u.f1.length u.f1
  l1 : u.f1.length ≤ c1
  r3 : Kd.C (Kd.int .i64) w A3 u.f2.f3.length u.f2.f3
  l3 : u.f2.f3.length ≤ c3
  r4 : Kd.C k102 w A4 u.f2.f4.length u.f2.f4
  l4 : u.f2.f4.length ≤ c4
  r6 : Kd.C (Kd.int .i64) w A6 u.f2.f6.length u.f2.f6
  l6 : u.f2.f6.length ≤ c6
theorem UpdC.below {w w' : World} {u : S47} {A0 A1 A3 A4 A6 : Option Addr} {c0 c1 c3 c4 c6 : Nat} (h : UpdC w u A0 A1 A3 A4 A6 c0 c1 c3 c4 c6) (hb : Below w.heap.size w w') : UpdC w' u A0 A1 A3 A4 A6 c0 c1 c3 c4 c6 :=
  ⟨Kd.C_below h.r0 hb, h.l0, Kd.C_below h.r1 hb, h.l1, Kd.C_below h.r3 hb, h.l3, Kd.C_below h.r4 hb, h.l4, Kd.C_below h.r6 hb, h.l6⟩
theorem UpdC.none (w : World) : UpdC w zU none none none none none 0 0 0 0 0 :=
  ⟨Kd.C_nil _ w, Nat.le_refl _, Kd.C_nil _ w, Nat.le_refl _, Kd.C_nil _ w, Nat.le_refl _, Kd.C_nil _ w, Nat.le_refl _, Kd.C_nil _ w, Nat.le_refl _⟩

def DecA (B : List Int) (u : S47) (er : Int) : Prop := FewU u 100000 ∧ ((B.length < 19 ∧ u = zU ∧ er = 3) ∨ (19 ≤ B.length ∧ NoDec B ∧ u = zU ∧ er = 4) ∨ (decV B = some u ∧ updB u = true ∧ encB u = B ∧ er = 0))
theorem FewU.none (n : Nat) : FewU zU n := ⟨by simp [zU], by simp [zU], by simp [zU, z41], by simp [zU, z41], by simp [zU, z41], fun x hx => (by cases hx), fun x hx => (by cases hx)⟩
theorem decode_calls (w : World) (A : Option Addr) (c : Nat) (B : List Int) (hC : Kd.C (Kd.int .u8) w A B.length B) (hc : B.length ≤ c) (hu : U8 B) (hB : B.length ≤ 100000) :
    Calls Try.prog 20 #[.slice A B.length c] w fun e w' => Below w.heap.size w w' ∧ ∃ (u : S47) (er : Int) (A0 A1 A3 A4 A6 : Option Addr) (c0 c1 c3 c4 c6 : Nat), e = .returned (.tuple #[.agg (uc u A0 A1 A3 A4 A6 c0 c1 c3 c4 c6), .int .i64 er]) ∧ UpdC w' u A0 A1 A3 A4 A6 c0 c1 c3 c4 c6 ∧ DecA B u er := by
  by_cases h : B.length < 19
  · refine (decode_short w A B.length c h).mono ?_
    rintro e w' ⟨rfl, hb⟩; exact ⟨hb, zU, 3, none, none, none, none, none, 0, 0, 0, 0, 0, rfl, UpdC.none w', FewU.none _, .inl ⟨h, rfl, rfl⟩⟩
  · refine (decode_long w A c B hC hc hu (by omega) hB).mono ?_
    rintro e w' ⟨hb, ⟨hn, rfl⟩ | ⟨u, v, hd, hf, hub, hE, ⟨A0, A1, A3, A4, A6, c0, c1, c3, c4, c6, rfl, r0, l0, r1, l1, r3, l3, r4, l4, r6, l6⟩, rfl⟩⟩
    · exact ⟨hb, zU, 4, none, none, none, none, none, 0, 0, 0, 0, 0, rfl, UpdC.none w', FewU.none _, .inr (.inl ⟨by omega, hn, rfl, rfl⟩)⟩
    · exact ⟨hb, u, 0, A0, A1, A3, A4, A6, c0, c1, c3, c4, c6, rfl, ⟨r0, l0, r1, l1, r3, l3, r4, l4, r6, l6⟩, hf, .inr (.inr ⟨hd, hub, hE, rfl⟩)⟩
section
variable {w : World} {u : S47} {A0 A1 A3 A4 A6 : Option Addr} {c0 c1 c3 c4 c6 : Nat}
set_option maxHeartbeats 8000000 in
set_option maxRecDepth 100000 in
theorem theirs_pass (w : World) (A0 A1 A5 A6 A8 : Option Addr) (n0 n1 n5 n6 n8 c0 c1 c5 c6 c8 : Nat) (p m o f : Int) :
    Calls Try.prog 23 #[.agg #[.slice A0 n0 c0, .slice A1 n1 c1, .int .i64 p, .int .i64 m, .int .i64 o, .slice A5 n5 c5, .slice A6 n6 c6, .int .i64 f, .slice A8 n8 c8]] w fun e w' => e = .returned (.agg #[.slice A0 n0 c0, .slice A1 n1 c1, .int .i64 p, .int .i64 m, .int .i64 o, .slice A5 n5 c5, .slice A6 n6 c6, .int .i64 f, .slice A8 n8 c8]) ∧ Below w.heap.size w w' := by
  go_enter Try.func23, Try.ntmps23
  go_wp2
  refine bodyPost_ret (v := .agg #[.slice A0 n0 c0, .slice A1 n1 c1, .int .i64 p, .int .i64 m, .int .i64 o, .slice A5 n5 c5, .slice A6 n6 c6, .int .i64 f, .slice A8 n8 c8]) ?_ rfl ⟨rfl, ?_⟩
  · simp [results, Try.results23, go_sem]
  · exact ((Below.refl w.heap.size w).alloc (Nat.le_refl _) _).alloc (by simp) _
set_option maxHeartbeats 8000000 in
set_option maxRecDepth 100000 in
theorem mine_pass2 (w : World) (A0 A1 A5 A6 A8 : Option Addr) (n0 n1 n5 n6 n8 c0 c1 c5 c6 c8 : Nat) (p m o f : Int) :
    Calls Try.prog 18 #[.agg #[.slice A0 n0 c0, .slice A1 n1 c1, .int .i64 p, .int .i64 m, .int .i64 o, .slice A5 n5 c5, .slice A6 n6 c6, .int .i64 f, .slice A8 n8 c8]] w fun e w' => e = .returned (.agg #[.slice A0 n0 c0, .slice A1 n1 c1, .int .i64 p, .int .i64 m, .int .i64 o, .slice A5 n5 c5, .slice A6 n6 c6, .int .i64 f, .slice A8 n8 c8]) ∧ Below w.heap.size w w' := by
  go_enter Try.func18, Try.ntmps18
  go_wp2
  refine bodyPost_ret (v := .agg #[.slice A0 n0 c0, .slice A1 n1 c1, .int .i64 p, .int .i64 m, .int .i64 o, .slice A5 n5 c5, .slice A6 n6 c6, .int .i64 f, .slice A8 n8 c8]) ?_ rfl ⟨rfl, ?_⟩
  · simp [results, Try.results18, go_sem]
  · exact ((Below.refl w.heap.size w).alloc (Nat.le_refl _) _).alloc (by simp) _
theorem may16 (h : UpdC w u A0 A1 A3 A4 A6 c0 c1 c3 c4 c6) (hf : FewU u 100000) : Calls Try.prog 16 #[.agg (uc u A0 A1 A3 A4 A6 c0 c1 c3 c4 c6)] w fun e w' => e = .returned (.bool (updB u)) ∧ Below w.heap.size w w' := by
  obtain ⟨k, hk⟩ := (rMayU_ev u hf).ex; exact whirligigref10_May.calls k A0 c0 u.f0 A1 c1 u.f1 u.f2.f0 u.f2.f1 u.f2.f2 A3 c3 u.f2.f3 A4 c4 u.f2.f4 u.f2.f5 A6 c6 u.f2.f6 _ w h.r0 h.l0 h.r1 h.l1 h.r3 h.l3 h.r4 h.l4 h.r6 h.l6 hk
theorem may19 (h : UpdC w u A0 A1 A3 A4 A6 c0 c1 c3 c4 c6) (hf : FewU u 100000) : Calls Try.prog 19 #[.agg (uc u A0 A1 A3 A4 A6 c0 c1 c3 c4 c6)] w fun e w' => e = .returned (.bool (updB u)) ∧ Below w.heap.size w w' := by
  obtain ⟨k, hk⟩ := (mayX_ev u hf).ex; exact wire_May.calls k A0 c0 u.f0 A1 c1 u.f1 u.f2.f0 u.f2.f1 u.f2.f2 A3 c3 u.f2.f3 A4 c4 u.f2.f4 u.f2.f5 A6 c6 u.f2.f6 _ w h.r0 h.l0 h.r1 h.l1 h.r3 h.l3 h.r4 h.l4 h.r6 h.l6 hk
theorem enc21 (h : UpdC w u A0 A1 A3 A4 A6 c0 c1 c3 c4 c6) (hf : FewU u 100000) (hu : updB u = true) : Calls Try.prog 21 #[.agg (uc u A0 A1 A3 A4 A6 c0 c1 c3 c4 c6)] w fun e w' => e = .returned (.string (strOfNums (encB u))) ∧ Below w.heap.size w w' := by
  obtain ⟨k, hk⟩ := (rEnc_ev u hu hf.a0 hf.a1).ex; exact whirligigref10_Encode.calls k A0 c0 u.f0 A1 c1 u.f1 u.f2.f0 u.f2.f1 u.f2.f2 A3 c3 u.f2.f3 A4 c4 u.f2.f4 u.f2.f5 A6 c6 u.f2.f6 _ w h.r0 h.l0 h.r1 h.l1 h.r3 h.l3 h.r4 h.l4 h.r6 h.l6 hk
theorem enc17 (h : UpdC w u A0 A1 A3 A4 A6 c0 c1 c3 c4 c6) (hf : FewU u 100000) (b : List Int) (er : Int) (hr : (if updB u = true then (encB u, (0 : Int)) else ([], 1)) = (b, er)) : Calls Try.prog 17 #[.agg (uc u A0 A1 A3 A4 A6 c0 c1 c3 c4 c6)] w fun e w' => ∃ v0_ : Value, e = .returned (.tuple #[v0_, .int .i64 er]) ∧ Kd.R (Kd.int .u8) 5 w' w.heap.size (fun _ => True) v0_ b ∧ Below w.heap.size w w' := by
  obtain ⟨k, hk⟩ := (encX_ev u hf).ex; rw [hr] at hk; exact wire_Encode.calls k A0 c0 u.f0 A1 c1 u.f1 u.f2.f0 u.f2.f1 u.f2.f2 A3 c3 u.f2.f3 A4 c4 u.f2.f4 u.f2.f5 A6 c6 u.f2.f6 _ _ w h.r0 h.l0 h.r1 h.l1 h.r3 h.l3 h.r4 h.l4 h.r6 h.l6 hk
theorem same22 {B0 B1 B3 B4 B6 : Option Addr} {d0 d1 d3 d4 d6 : Nat} (h : UpdC w u A0 A1 A3 A4 A6 c0 c1 c3 c4 c6) (h' : UpdC w u B0 B1 B3 B4 B6 d0 d1 d3 d4 d6) (hf : FewU u 100000) : Calls Try.prog 22 #[.agg (uc u A0 A1 A3 A4 A6 c0 c1 c3 c4 c6), .agg (uc u B0 B1 B3 B4 B6 d0 d1 d3 d4 d6)] w fun e w' => e = .returned (.bool true) ∧ Below w.heap.size w w' := by
  obtain ⟨k, hk⟩ := (rSame_ev u hf).ex; exact whirligigref10_Same.calls k A0 c0 u.f0 A1 c1 u.f1 u.f2.f0 u.f2.f1 u.f2.f2 A3 c3 u.f2.f3 A4 c4 u.f2.f4 u.f2.f5 A6 c6 u.f2.f6 B0 d0 u.f0 B1 d1 u.f1 u.f2.f0 u.f2.f1 u.f2.f2 B3 d3 u.f2.f3 B4 d4 u.f2.f4 u.f2.f5 B6 d6 u.f2.f6 _ w h.r0 h.l0 h.r1 h.l1 h.r3 h.l3 h.r4 h.l4 h.r6 h.l6 h'.r0 h'.l0 h'.r1 h'.l1 h'.r3 h'.l3 h'.r4 h'.l4 h'.r6 h'.l6 hk
theorem lives9 (w : World) : Calls Try.prog 9 #[] w fun e w' => e = .returned (.bool true) ∧ Below w.heap.size w w' := by
  obtain ⟨k, hk⟩ := lives_ev.ex; exact whirligiglaw10_lives.calls k true w hk
end

theorem few10_is (u : S47) : ∃ q, whirligiglaw10_few.f u.f0 u.f1 u.f2.f0 u.f2.f1 u.f2.f2 u.f2.f3 u.f2.f4 u.f2.f5 u.f2.f6 = some q ∧ (q = true → u.f0.length ≤ 100 ∧ u.f1.length ≤ 100 ∧ u.f2.f3.length ≤ 100 ∧ u.f2.f4.length ≤ 100 ∧ u.f2.f6.length ≤ 100) := by
  unfold whirligiglaw10_few.f whirligigref09_Few.f
  by_cases h1 : (u.f0.length : Int) ≤ 100
  · rw [if_pos h1]
    by_cases h2 : (u.f1.length : Int) ≤ 100
    · rw [if_pos h2]
      by_cases h3 : (u.f2.f3.length : Int) ≤ 100
      · rw [if_pos h3]
        by_cases h4 : (u.f2.f4.length : Int) ≤ 100
        · rw [if_pos h4]
          (refine ⟨_, rfl, fun h => ?_⟩); have h5 : (u.f2.f6.length : Int) ≤ 100 := of_decide_eq_true h; (exact ⟨by omega, by omega, by omega, by omega, by omega⟩)
        · rw [if_neg h4]; exact ⟨false, rfl, fun h => by cases h⟩
      · rw [if_neg h3]; exact ⟨false, rfl, fun h => by cases h⟩
    · rw [if_neg h2]; exact ⟨false, rfl, fun h => by cases h⟩
  · rw [if_neg h1]; exact ⟨false, rfl, fun h => by cases h⟩
theorem few15 {w : World} {u : S47} {A0 A1 A3 A4 A6 : Option Addr} {c0 c1 c3 c4 c6 : Nat} (h : UpdC w u A0 A1 A3 A4 A6 c0 c1 c3 c4 c6) (a0 : ∀ x ∈ u.f0, isA x.f0) (a1 : ∀ x ∈ u.f1, isA x.f0) : Calls Try.prog 15 #[.agg (uc u A0 A1 A3 A4 A6 c0 c1 c3 c4 c6)] w fun e w' => ∃ q : Bool, e = .returned (.bool q) ∧ Below w.heap.size w w' ∧ (q = true → FewU u 100) := by
  obtain ⟨q, hq, hb⟩ := few10_is u; refine (whirligiglaw10_few.calls A0 c0 u.f0 A1 c1 u.f1 u.f2.f0 u.f2.f1 u.f2.f2 A3 c3 u.f2.f3 A4 c4 u.f2.f4 u.f2.f5 A6 c6 u.f2.f6 q w h.r0 h.l0 h.r1 h.l1 h.r3 h.l3 h.r4 h.l4 h.r6 h.l6 hq).mono ?_; rintro e w' ⟨rfl, hbw⟩; (exact ⟨q, rfl, hbw, fun e => ⟨(hb e).1, (hb e).2.1, (hb e).2.2.1, (hb e).2.2.2.1, (hb e).2.2.2.2, a0, a1⟩⟩)
theorem FewU.up {u : S47} {n m : Nat} (h : FewU u n) (hn : n ≤ m) : FewU u m := ⟨by have := h.w; omega, by have := h.t; omega, by have := h.p; omega, by have := h.c; omega, by have := h.l; omega, h.a0, h.a1⟩
theorem encB_length (u : S47) : (encB u).length = 19 + (datB u).length := by unfold encB; rw [List.length_append, hd_len]
theorem C_take {w : World} {A : Option Addr} {E : List Int} (h : Kd.C (Kd.int .u8) w A E.length E) (n : Nat) (hn : n ≤ E.length) : Kd.C (Kd.int .u8) w A (E.take n).length (E.take n) := by
  have hc := Kd.reads_of_C (d := (0 : Int)) h; (refine Kd.C_of_reads (h1 := fun _ => rfl) (d := (0 : Int)) ⟨rfl, by have := hc.2.1; rw [List.length_take]; omega, fun hp => ?_⟩); (have hl : (E.take n).length = n := by rw [List.length_take]; omega); (obtain ⟨ad, had, hcc⟩ := hc.2.2 (by omega)); (refine ⟨ad, had, fun j hj => ?_⟩); (rw [hcc j (by omega), List.getD_eq_getElem?_getD, List.getD_eq_getElem?_getD, List.getElem?_take, if_pos (by omega)])
theorem U8.set {E : List Int} (h : U8 E) (n : Nat) (x : Int) (hx : 0 ≤ x ∧ x ≤ 255) : U8 (E.set n x) := fun y hy => by
  rcases List.mem_or_eq_of_mem_set hy with hy | rfl
  · exact h y hy
  · exact hx
section
variable {P : Program} {ops : Array Oper} {Q : Exit → Act → World → Prop} {md : Region.Mode} {S : World → Prop}

theorem hk_ (i N : Nat) {oi : Oper} {v : Value} {fuel : Nat} {l : Array Bool} {a a' : Act} {w : World} (hS : S w) (h : wpAnyH P md ops Q S fuel (l.setIfInBounds i true) a' w)
    (hi : ops[i]? = some oi := by rfl) (hN : oi.dst = some N := by rfl) (hs : Region.noSelect ops = true := by kernel_rfl) (hf : Region.free md ops l i = true := by kernel_rfl) (hr : (Region.ready md ops l).contains i = true := by kernel_rfl)
    (hQ : ∀ c a w, Q (.panic c) (a.put oi.dst v) w → Q (.panic c) a w := by exact fun _ _ _ h => h) (hw : Region.wanted oi (yielded ops a.tmps) = true := by first | (simp [Region.wanted, yielded]; done) | rfl) (hy : ∀ w, S w → (execOp a.eval oi).run P w = .ok (.value v) w := by intro w hSw; first | (go_simp; done) | (go_simp; with_reducible rfl))
    (ha : a.put (some N) v = a' := by simp only [Act.put, List.getElem_toArray, List.getElem_cons_succ, List.getElem_cons_zero, List.setIfInBounds_toArray, List.set_cons_zero, List.set_cons_succ]; rfl) : wpAnyH P md ops Q S (fuel + 1) l a w := by
  subst ha; refine wpAnyH_take hi hs hf hr hQ (Or.inl ⟨hw, hy⟩) hS ?_; rw [hN]; exact h
end

set_option maxHeartbeats 16000000 in
set_option maxRecDepth 100000 in
theorem writes_calls (w : World) (u : S47) (A0 A1 A3 A4 A6 : Option Addr) (c0 c1 c3 c4 c6 : Nat) (h : UpdC w u A0 A1 A3 A4 A6 c0 c1 c3 c4 c6) (a0 : ∀ x ∈ u.f0, isA x.f0) (a1 : ∀ x ∈ u.f1, isA x.f0) :
    Calls Try.prog 5 #[.agg #[.slice A0 u.f0.length c0, .slice A1 u.f1.length c1, .int .i64 u.f2.f0, .int .i64 u.f2.f1, .int .i64 u.f2.f2, .slice A3 u.f2.f3.length c3, .slice A4 u.f2.f4.length c4, .int .i64 u.f2.f5, .slice A6 u.f2.f6.length c6]] w fun e w' => e = .returned (.bool true) ∧ Below w.heap.size w w' := by
  obtain ⟨W, hW⟩ : ∃ W, W = w.alloc (.cells #[.slice A0 u.f0.length c0, .slice A1 u.f1.length c1, .int .i64 u.f2.f0, .int .i64 u.f2.f1, .int .i64 u.f2.f2, .slice A3 u.f2.f3.length c3, .slice A4 u.f2.f4.length c4, .int .i64 u.f2.f5, .slice A6 u.f2.f6.length c6] 43) := ⟨_, rfl⟩; obtain ⟨gb, hgb⟩ : ∃ g, g = w.heap.size := ⟨_, rfl⟩; (have hb0 : Below w.heap.size w W := by rw [hW]; exact below_allocs (Below.refl _ w) (Nat.le_refl _) _); (have k0 : W.heap[gb]? = some (.cells #[.slice A0 u.f0.length c0, .slice A1 u.f1.length c1, .int .i64 u.f2.f0, .int .i64 u.f2.f1, .int .i64 u.f2.f2, .slice A3 u.f2.f3.length c3, .slice A4 u.f2.f4.length c4, .int .i64 u.f2.f5, .slice A6 u.f2.f6.length c6] 43 (0, 0)) := by rw [hW, hgb]; exact heap_alloc_new w _); have hU := h.below hb0; have hfw := mkHid (few15 hU a0 a1); have HU := mkHid hU; have HK := mkHid k0; have HB := mkHid hb0
  have hcells : Hid (∀ wx, Below W.heap.size W wx → wx.cell? ⟨gb, 0, none⟩ = some (.slice A0 u.f0.length c0) ∧ wx.cell? ⟨gb, 1, none⟩ = some (.slice A1 u.f1.length c1) ∧ wx.cell? ⟨gb, 2, none⟩ = some (.int .i64 u.f2.f0) ∧ wx.cell? ⟨gb, 3, none⟩ = some (.int .i64 u.f2.f1) ∧ wx.cell? ⟨gb, 4, none⟩ = some (.int .i64 u.f2.f2) ∧ wx.cell? ⟨gb, 5, none⟩ = some (.slice A3 u.f2.f3.length c3) ∧ wx.cell? ⟨gb, 6, none⟩ = some (.slice A4 u.f2.f4.length c4) ∧ wx.cell? ⟨gb, 7, none⟩ = some (.int .i64 u.f2.f5) ∧ wx.cell? ⟨gb, 8, none⟩ = some (.slice A6 u.f2.f6.length c6)) := mkHid (fun wx hb => by
    have k := (hb.block gb (Array.getElem?_eq_some_iff.1 HK.out).1).trans HK.out
    exact ⟨blk_cell k 0, blk_cell k 1, blk_cell k 2, blk_cell k 3, blk_cell k 4, blk_cell k 5, blk_cell k 6, blk_cell k 7, blk_cell k 8⟩)
  have HW := mkHid hW; have HGB := mkHid hgb; obtain ⟨x0, x1, x2, x3, x4, x5, x6, x7, x8⟩ := hcells.out W (Below.refl _ W); clear hU k0 hb0 h hW hgb
  go_enter Try.func5, Try.ntmps5
  go_wp2_with fail
  rw [← HW.out, ← HGB.out]; refine hfw.out.mono ?_; rintro e w1 ⟨q, rfl, hb1, hq⟩; have HB1 : Hid (Below w.heap.size w w1) := mkHid (HB.out.trans (hb1.mono HB.out.size)); have HW1 : Hid (Below W.heap.size W w1) := mkHid hb1; clear x0 x1 x2 x3 x4 x5 x6 x7 x8
  cases q with
  | false =>
    clear hb1 hq
    go_wp2_with fail
    refine (lives9 _).mono ?_; rintro e w9 ⟨rfl, hb9⟩; have HB9 : Hid (Below w.heap.size w w9) := mkHid (HB1.out.trans (hb9.mono HB1.out.size)); clear hb9
    go_wp2_with fail
    go_ret
    exact ⟨rfl, HB9.out⟩
  | true =>
    (have HF : Hid (FewU u 100000) := mkHid (FewU.up (hq rfl) (by omega))); obtain ⟨x0, x1, x2, x3, x4, x5, x6, x7, x8⟩ := hcells.out w1 hb1; have hmy := mkHid (may16 (HU.out.below HW1.out) HF.out); clear hb1 hq hfw
    go_wp2_with fail
    refine hmy.out.mono ?_; rintro e w2 ⟨rfl, hb2⟩; have HW2 : Hid (Below W.heap.size W w2) := mkHid (HW1.out.trans (hb2.mono HW1.out.size)); clear x0 x1 x2 x3 x4 x5 x6 x7 x8 hmy hb2; obtain ⟨x0, x1, x2, x3, x4, x5, x6, x7, x8⟩ := hcells.out w2 HW2.out; (have hmi : Hid (∀ wx, Below W.heap.size W wx → Calls Try.prog 18 #[.agg #[.slice A0 u.f0.length c0, .slice A1 u.f1.length c1, .int .i64 u.f2.f0, .int .i64 u.f2.f1, .int .i64 u.f2.f2, .slice A3 u.f2.f3.length c3, .slice A4 u.f2.f4.length c4, .int .i64 u.f2.f5, .slice A6 u.f2.f6.length c6]] wx fun e w' => e = .returned (.agg #[.slice A0 u.f0.length c0, .slice A1 u.f1.length c1, .int .i64 u.f2.f0, .int .i64 u.f2.f1, .int .i64 u.f2.f2, .slice A3 u.f2.f3.length c3, .slice A4 u.f2.f4.length c4, .int .i64 u.f2.f5, .slice A6 u.f2.f6.length c6]) ∧ Below W.heap.size W w' ∧ Below wx.heap.size wx w') := mkHid (fun wx hb => (mine_pass2 wx A0 A1 A3 A4 A6 _ _ _ _ _ c0 c1 c3 c4 c6 _ _ _ _).mono (fun e w' hh => ⟨hh.1, hb.trans (hh.2.mono hb.size), hh.2⟩)))
    go_wp2_with fail
    refine (hmi.out _ HW2.out).mono ?_; rintro e w3 ⟨rfl, hb3, _⟩; have HW3 := mkHid hb3; obtain ⟨E, er, hr⟩ : ∃ (b : List Int) (er : Int), (if updB u = true then (encB u, (0 : Int)) else ([], 1)) = (b, er) := ⟨_, _, rfl⟩; have hen := mkHid (enc17 (HU.out.below hb3) HF.out E er hr); have HR := mkHid hr; clear x0 x1 x2 x3 x4 x5 x6 x7 x8 hb3 hr
    go_wp2_with fail
    refine hen.out.mono ?_; rintro e w4 ⟨v4, rfl, hR4, hb4⟩; have HW4 : Hid (Below W.heap.size W w4) := mkHid (HW3.out.trans (hb4.mono HW3.out.size)); obtain ⟨AE, cE, rfl⟩ := Kd.R_slice hR4; have HR4 := mkHid hR4; clear hb4 hen hR4; obtain ⟨x0, x1, x2, x3, x4, x5, x6, x7, x8⟩ := hcells.out w4 HW4.out
    go_wp2_with fail
    refine (hmi.out _ HW4.out).mono ?_; rintro e w5 ⟨rfl, hb5, hb45⟩; have HW5 := mkHid hb5; have HB45 := mkHid hb45; have hm2 := mkHid (may19 (HU.out.below hb5) HF.out); clear x0 x1 x2 x3 x4 x5 x6 x7 x8 hb5 hb45
    go_wp2_with fail
    refine hm2.out.mono ?_; rintro e w6 ⟨rfl, hb6⟩; have HW6 : Hid (Below W.heap.size W w6) := mkHid (HW5.out.trans (hb6.mono HW5.out.size)); have HB6 : Hid (Below w.heap.size w w6) := mkHid (HB.out.trans (HW6.out.mono HB.out.size)); have hb46 : Below w4.heap.size w4 w6 := HB45.out.trans (hb6.mono HB45.out.size); have HR6 := mkHid (Kd.R_below HR4.out hb46); clear hb6 hm2 hb46
    by_cases hub : updB u = true
    case neg =>
      have hr := HR.out; rw [if_neg hub] at hr
      injection hr with e1 e2
      subst e1 e2; have hubf : updB u = false := Bool.eq_false_iff.mpr hub; rw [hubf]
      go_wp2_with fail
      refine (lives9 _).mono ?_; rintro e w9 ⟨rfl, hb9⟩; have HB9 : Hid (Below w.heap.size w w9) := mkHid (HB6.out.trans (hb9.mono HB6.out.size)); clear hb9
      go_wp2_with fail
      go_ret
      exact ⟨rfl, HB9.out⟩
    have hr := HR.out; rw [if_pos hub] at hr
    injection hr with e1 e2
    subst e2; have HE := mkHid e1; have HUB := mkHid hub; rw [hub]; clear e1 HR hub
    go_wp2_with fail
    (have hd := mkHid (decode_calls w6 AE cE E (Kd.R_reads' HR6.out).2.2 (Kd.R_reads' HR6.out).2.1 (by rw [← HE.out]; exact encB_u8 HUB.out) (by have := datB_len HUB.out; rw [← HE.out, encB_length]; omega))); refine hd.out.mono ?_; rintro e w7 ⟨hb7, v, er, D0, D1, D3, D4, D6, d0, d1, d3, d4, d6, rfl, hU7, hD⟩; have hdv := decV_back u HUB.out a0 a1; rw [HE.out] at hdv; obtain ⟨hfv, hcase⟩ := hD
    obtain ⟨hvu, her⟩ : u = v ∧ er = 0 := by
      rcases hcase with ⟨hl, _, _⟩ | ⟨_, hn, _, _⟩ | ⟨h1, _, _, h2⟩
      · have := encB_length u
        rw [HE.out] at this; omega
      · exact absurd ⟨HUB.out, HE.out⟩ (hn u hdv)
      · rw [hdv] at h1
        injection h1 with h1
        exact ⟨h1, h2⟩
    subst hvu her
    unfold uc
    obtain ⟨X, hX⟩ : ∃ X, X = w7.alloc (.cells #[.slice D0 u.f0.length d0, .slice D1 u.f1.length d1, .int .i64 u.f2.f0, .int .i64 u.f2.f1, .int .i64 u.f2.f2, .slice D3 u.f2.f3.length d3, .slice D4 u.f2.f4.length d4, .int .i64 u.f2.f5, .slice D6 u.f2.f6.length d6] 47) := ⟨_, rfl⟩; obtain ⟨gv, hgv⟩ : ∃ g, g = w7.heap.size := ⟨_, rfl⟩; (have hbX1 : Below w7.heap.size w7 X := by rw [hX]; exact below_alloc (Below.refl _ w7) _); have hb6X : Below w6.heap.size w6 X := hb7.trans (hbX1.mono hb7.size); have HWX : Hid (Below W.heap.size W X) := mkHid (HW6.out.trans (hb6X.mono HW6.out.size)); have HBX : Hid (Below w.heap.size w X) := mkHid (HB6.out.trans (hb6X.mono HB6.out.size)); (have k1 : X.heap[gv]? = some (.cells #[.slice D0 u.f0.length d0, .slice D1 u.f1.length d1, .int .i64 u.f2.f0, .int .i64 u.f2.f1, .int .i64 u.f2.f2, .slice D3 u.f2.f3.length d3, .slice D4 u.f2.f4.length d4, .int .i64 u.f2.f5, .slice D6 u.f2.f6.length d6] 47 (0, 0)) := by rw [hX, hgv]; exact heap_alloc_new w7 _); have HK1 := mkHid k1; have HU1 := mkHid (hU7.below hbX1); have HRX := mkHid (Kd.R_below HR6.out hb6X); (have hcX : Hid (∀ wx, Below X.heap.size X wx → wx.cell? ⟨gb, 0, none⟩ = some (.slice A0 u.f0.length c0) ∧ wx.cell? ⟨gb, 1, none⟩ = some (.slice A1 u.f1.length c1) ∧ wx.cell? ⟨gb, 2, none⟩ = some (.int .i64 u.f2.f0) ∧ wx.cell? ⟨gb, 3, none⟩ = some (.int .i64 u.f2.f1) ∧ wx.cell? ⟨gb, 4, none⟩ = some (.int .i64 u.f2.f2) ∧ wx.cell? ⟨gb, 5, none⟩ = some (.slice A3 u.f2.f3.length c3) ∧ wx.cell? ⟨gb, 6, none⟩ = some (.slice A4 u.f2.f4.length c4) ∧ wx.cell? ⟨gb, 7, none⟩ = some (.int .i64 u.f2.f5) ∧ wx.cell? ⟨gb, 8, none⟩ = some (.slice A6 u.f2.f6.length c6)) := mkHid (fun wx hb => hcells.out wx (HWX.out.trans (hb.mono HWX.out.size))))
    have hcY : Hid (∀ wx, Below X.heap.size X wx → wx.cell? ⟨gv, 0, none⟩ = some (.slice D0 u.f0.length d0) ∧ wx.cell? ⟨gv, 1, none⟩ = some (.slice D1 u.f1.length d1) ∧ wx.cell? ⟨gv, 2, none⟩ = some (.int .i64 u.f2.f0) ∧ wx.cell? ⟨gv, 3, none⟩ = some (.int .i64 u.f2.f1) ∧ wx.cell? ⟨gv, 4, none⟩ = some (.int .i64 u.f2.f2) ∧ wx.cell? ⟨gv, 5, none⟩ = some (.slice D3 u.f2.f3.length d3) ∧ wx.cell? ⟨gv, 6, none⟩ = some (.slice D4 u.f2.f4.length d4) ∧ wx.cell? ⟨gv, 7, none⟩ = some (.int .i64 u.f2.f5) ∧ wx.cell? ⟨gv, 8, none⟩ = some (.slice D6 u.f2.f6.length d6)) := mkHid (fun wx hb => by
      have k := (hb.block gv (Array.getElem?_eq_some_iff.1 HK1.out).1).trans HK1.out
      exact ⟨blk_cell k 0, blk_cell k 1, blk_cell k 2, blk_cell k 3, blk_cell k 4, blk_cell k 5, blk_cell k 6, blk_cell k 7, blk_cell k 8⟩)
    (have hcv : Hid (∀ wx, Below X.heap.size X wx → (convert 22 9 (.slice AE E.length cE)).run Try.prog wx = .ok (.string (strOfNums E)) wx) := mkHid (fun wx hb => Kd.C_string (P := Try.prog) (A := AE) (c := cE) Try.underlying22 Try.underlying5 Try.underlying9 (Kd.C_below (Kd.R_reads' HRX.out).2.2 hb))); (have hth : Hid (∀ wx, Below X.heap.size X wx → Calls Try.prog 23 #[.agg #[.slice D0 u.f0.length d0, .slice D1 u.f1.length d1, .int .i64 u.f2.f0, .int .i64 u.f2.f1, .int .i64 u.f2.f2, .slice D3 u.f2.f3.length d3, .slice D4 u.f2.f4.length d4, .int .i64 u.f2.f5, .slice D6 u.f2.f6.length d6]] wx fun e w' => e = .returned (.agg #[.slice D0 u.f0.length d0, .slice D1 u.f1.length d1, .int .i64 u.f2.f0, .int .i64 u.f2.f1, .int .i64 u.f2.f2, .slice D3 u.f2.f3.length d3, .slice D4 u.f2.f4.length d4, .int .i64 u.f2.f5, .slice D6 u.f2.f6.length d6]) ∧ Below X.heap.size X w') := mkHid (fun wx hb => (theirs_pass wx D0 D1 D3 D4 D6 _ _ _ _ _ d0 d1 d3 d4 d6 _ _ _ _).mono (fun e w' hh => ⟨hh.1, hb.trans (hh.2.mono hb.size)⟩))); (have hsm : Hid (∀ wx, Below X.heap.size X wx → Calls Try.prog 22 #[.agg #[.slice D0 u.f0.length d0, .slice D1 u.f1.length d1, .int .i64 u.f2.f0, .int .i64 u.f2.f1, .int .i64 u.f2.f2, .slice D3 u.f2.f3.length d3, .slice D4 u.f2.f4.length d4, .int .i64 u.f2.f5, .slice D6 u.f2.f6.length d6], .agg #[.slice A0 u.f0.length c0, .slice A1 u.f1.length c1, .int .i64 u.f2.f0, .int .i64 u.f2.f1, .int .i64 u.f2.f2, .slice A3 u.f2.f3.length c3, .slice A4 u.f2.f4.length c4, .int .i64 u.f2.f5, .slice A6 u.f2.f6.length c6]] wx fun e w' => e = .returned (.bool true) ∧ Below X.heap.size X w') := mkHid (fun wx hb => (same22 (HU1.out.below hb) (HU.out.below (HWX.out.trans (hb.mono HWX.out.size))) HF.out).mono (fun e w' hh => ⟨hh.1, hb.trans (hh.2.mono hb.size)⟩)))
    (have hen : Hid (∀ wx, Below X.heap.size X wx → Calls Try.prog 21 #[.agg #[.slice A0 u.f0.length c0, .slice A1 u.f1.length c1, .int .i64 u.f2.f0, .int .i64 u.f2.f1, .int .i64 u.f2.f2, .slice A3 u.f2.f3.length c3, .slice A4 u.f2.f4.length c4, .int .i64 u.f2.f5, .slice A6 u.f2.f6.length c6]] wx fun e w' => e = .returned (.string (strOfNums E)) ∧ Below X.heap.size X w') := mkHid (fun wx hb => (enc21 (HU.out.below (HWX.out.trans (hb.mono HWX.out.size))) HF.out HUB.out).mono (fun e w' hh => ⟨by rw [hh.1, HE.out], hb.trans (hh.2.mono hb.size)⟩))); (have hlv : Hid (∀ wx, Below X.heap.size X wx → Calls Try.prog 9 #[] wx fun e w' => e = .returned (.bool true) ∧ Below X.heap.size X w') := mkHid (fun wx hb => (lives9 wx).mono (fun e w' hh => ⟨hh.1, hb.trans (hh.2.mono hb.size)⟩))); have HX := mkHid hX; have HGV := mkHid hgv; have HBt : Hid (Below X.heap.size X X.drew) := mkHid (below_drew (Below.refl _ X))
    have hS : Hid (∀ wx, Below X.heap.size X wx → wx.cell? ⟨gb, 0, none⟩ = some (.slice A0 u.f0.length c0) ∧ wx.cell? ⟨gb, 1, none⟩ = some (.slice A1 u.f1.length c1) ∧ wx.cell? ⟨gb, 2, none⟩ = some (.int .i64 u.f2.f0) ∧ wx.cell? ⟨gb, 3, none⟩ = some (.int .i64 u.f2.f1) ∧ wx.cell? ⟨gb, 4, none⟩ = some (.int .i64 u.f2.f2) ∧ wx.cell? ⟨gb, 5, none⟩ = some (.slice A3 u.f2.f3.length c3) ∧ wx.cell? ⟨gb, 6, none⟩ = some (.slice A4 u.f2.f4.length c4) ∧ wx.cell? ⟨gb, 7, none⟩ = some (.int .i64 u.f2.f5) ∧ wx.cell? ⟨gb, 8, none⟩ = some (.slice A6 u.f2.f6.length c6) ∧ wx.cell? ⟨gv, 0, none⟩ = some (.slice D0 u.f0.length d0) ∧ wx.cell? ⟨gv, 1, none⟩ = some (.slice D1 u.f1.length d1) ∧ wx.cell? ⟨gv, 2, none⟩ = some (.int .i64 u.f2.f0) ∧ wx.cell? ⟨gv, 3, none⟩ = some (.int .i64 u.f2.f1) ∧ wx.cell? ⟨gv, 4, none⟩ = some (.int .i64 u.f2.f2) ∧ wx.cell? ⟨gv, 5, none⟩ = some (.slice D3 u.f2.f3.length d3) ∧ wx.cell? ⟨gv, 6, none⟩ = some (.slice D4 u.f2.f4.length d4) ∧ wx.cell? ⟨gv, 7, none⟩ = some (.int .i64 u.f2.f5) ∧ wx.cell? ⟨gv, 8, none⟩ = some (.slice D6 u.f2.f6.length d6) ∧ (convert 22 9 (.slice AE E.length cE)).run Try.prog wx = .ok (.string (strOfNums E)) wx) := mkHid (fun wx hb => by
      obtain ⟨x0, x1, x2, x3, x4, x5, x6, x7, x8⟩ := hcX.out wx hb; obtain ⟨y0, y1, y2, y3, y4, y5, y6, y7, y8⟩ := hcY.out wx hb
      exact ⟨x0, x1, x2, x3, x4, x5, x6, x7, x8, y0, y1, y2, y3, y4, y5, y6, y7, y8, hcv.out wx hb⟩)
    clear hX hgv hb7 hU7 hdv hfv hcase hbX1 hb6X k1 hd hmi hcX hcY hcv
    go_upto_region 10 with fail
    rename_i K hK
    rw [← HX.out, ← HGV.out]; (refine wp_region_held_drew (S := fun wx => wx.cell? ⟨gb, 0, none⟩ = some (.slice A0 u.f0.length c0) ∧ wx.cell? ⟨gb, 1, none⟩ = some (.slice A1 u.f1.length c1) ∧ wx.cell? ⟨gb, 2, none⟩ = some (.int .i64 u.f2.f0) ∧ wx.cell? ⟨gb, 3, none⟩ = some (.int .i64 u.f2.f1) ∧ wx.cell? ⟨gb, 4, none⟩ = some (.int .i64 u.f2.f2) ∧ wx.cell? ⟨gb, 5, none⟩ = some (.slice A3 u.f2.f3.length c3) ∧ wx.cell? ⟨gb, 6, none⟩ = some (.slice A4 u.f2.f4.length c4) ∧ wx.cell? ⟨gb, 7, none⟩ = some (.int .i64 u.f2.f5) ∧ wx.cell? ⟨gb, 8, none⟩ = some (.slice A6 u.f2.f6.length c6) ∧ wx.cell? ⟨gv, 0, none⟩ = some (.slice D0 u.f0.length d0) ∧ wx.cell? ⟨gv, 1, none⟩ = some (.slice D1 u.f1.length d1) ∧ wx.cell? ⟨gv, 2, none⟩ = some (.int .i64 u.f2.f0) ∧ wx.cell? ⟨gv, 3, none⟩ = some (.int .i64 u.f2.f1) ∧ wx.cell? ⟨gv, 4, none⟩ = some (.int .i64 u.f2.f2) ∧ wx.cell? ⟨gv, 5, none⟩ = some (.slice D3 u.f2.f3.length d3) ∧ wx.cell? ⟨gv, 6, none⟩ = some (.slice D4 u.f2.f4.length d4) ∧ wx.cell? ⟨gv, 7, none⟩ = some (.int .i64 u.f2.f5) ∧ wx.cell? ⟨gv, 8, none⟩ = some (.slice D6 u.f2.f6.length d6) ∧ (convert 22 9 (.slice AE E.length cE)).run Try.prog wx = .ok (.string (strOfNums E)) wx) (by kernel_rfl) (hS.out _ HBt.out) (fun hHeld => ?_))
    (refine hk_ 0 42 (by assumption) ?_; refine hk_ 1 43 (by assumption) ?_; refine hk_ 2 44 (by assumption) ?_; refine hk_ 3 45 (by assumption) ?_; refine hk_ 4 46 (by assumption) ?_; refine hk_ 5 47 (by assumption) ?_); (refine wpAnyH_ready (rs := [6]) (by kernel_rfl) (by simp) (AllReadyH.cons (o := _) rfl (fun K_ hK_ => ?_) AllReadyH.nil))
    go_simp
    refine (hen.out _ HBt.out).mono ?_; rintro e w' ⟨rfl, hb⟩; have HBt := mkHid hb; clear hb; (refine hK_.out _ _ (hS.out _ HBt.out) (fun hHeld => ?_)); clear hK_ K_
    (try simp only [Act.put, List.getElem_toArray, List.getElem_cons_succ, List.getElem_cons_zero, List.setIfInBounds_toArray, List.set_cons_zero, List.set_cons_succ])
    (refine hk_ 7 49 (by assumption) ?_; refine hk_ 8 50 (by assumption) ?_; refine hk_ 9 51 (by assumption) ?_; refine hk_ 10 52 (by assumption) ?_; refine hk_ 11 53 (by assumption) ?_; refine hk_ 12 54 (by assumption) ?_; refine hk_ 13 55 (by assumption) ?_; refine hk_ 14 56 (by assumption) ?_; refine hk_ 16 58 (by assumption) ?_); (refine wpAnyH_ready (rs := [15]) (by kernel_rfl) (by simp) (AllReadyH.cons (o := _) rfl (fun K_ hK_ => ?_) AllReadyH.nil))
    go_simp
    refine (hth.out _ HBt.out).mono ?_; rintro e w' ⟨rfl, hb⟩; have HBt := mkHid hb; clear hb; (refine hK_.out _ _ (hS.out _ HBt.out) (fun hHeld => ?_)); clear hK_ K_
    (try simp only [Act.put, List.getElem_toArray, List.getElem_cons_succ, List.getElem_cons_zero, List.setIfInBounds_toArray, List.set_cons_zero, List.set_cons_succ])
    refine wpAnyH_ready (rs := [17]) (by kernel_rfl) (by simp) (AllReadyH.cons (o := _) rfl (fun K_ hK_ => ?_) AllReadyH.nil)
    go_simp
    refine (hsm.out _ HBt.out).mono ?_; rintro e w' ⟨rfl, hb⟩; have HBt := mkHid hb; clear hb; (refine hK_.out _ _ (hS.out _ HBt.out) (fun hHeld => ?_)); clear hK_ K_
    (try simp only [Act.put, List.getElem_toArray, List.getElem_cons_succ, List.getElem_cons_zero, List.setIfInBounds_toArray, List.set_cons_zero, List.set_cons_succ])
    (refine hk_ 18 60 (by assumption) ?_; refine hk_ 19 61 (by assumption) ?_); (refine wpAnyH_ready (rs := [20]) (by kernel_rfl) (by simp) (AllReadyH.cons (o := _) rfl (fun K_ hK_ => ?_) AllReadyH.nil))
    go_simp
    refine (hlv.out _ HBt.out).mono ?_; rintro e w' ⟨rfl, hb⟩; have HBt := mkHid hb; clear hb; (refine hK_.out _ _ (hS.out _ HBt.out) (fun hHeld => ?_)); clear hK_ K_
    (try simp only [Act.put, List.getElem_toArray, List.getElem_cons_succ, List.getElem_cons_zero, List.setIfInBounds_toArray, List.set_cons_zero, List.set_cons_succ])
    (refine hk_ 21 63 (by assumption) ?_; refine hk_ 22 2 (by assumption) ?_); (refine wpAnyH_done (by kernel_rfl) ?_ _); refine hK _ _ ?_
    go_wp2_with fail
    go_ret
    exact ⟨rfl, (HBX.out.trans (HBt.out.mono HBX.out.size))⟩
end Go.Proofs.Ytjmpojfpbhihpaa

end
section
namespace Go.Proofs.Ytjmpojfpbhihpaa.P
open Go.RowKit Go.Proofs.YtjmpojfpbhihpaaW.PrintWords Go.Proofs.YtjmpojfpbhihpaaW.PrintLast Go.Proofs.YtjmpojfpbhihpaaW.PrintMore
attribute [local go_sem] max2_int min2_int max_two min_two max_three min_three max_four min_four   -- for this text's walks alone
set_option linter.unusedVariables false
set_option linter.unusedSimpArgs false

def whirligiglaw10_WireWrites.f (k : Nat) (l0_0 : List (S25)) (l0_1 : List (S25)) (a0_2 : Int) (a0_3 : Int) (a0_4 : Int) (l0_5 : List Int) (l0_6 : List (S102)) (a0_7 : Int) (l0_8 : List Int) : Option (Bool) := if ((l0_0.all fun x => decide (0 ≤ x.f0) && decide (x.f0 ≤ 4294967295)) && (l0_1.all fun x => decide (0 ≤ x.f0) && decide (x.f0 ≤ 4294967295))) = true then some true else none
theorem whirligiglaw10_WireWrites.calls (k : Nat) (A0_0 : Option Addr) (c0_0 : Nat) (l0_0 : List (S25)) (A0_1 : Option Addr) (c0_1 : Nat) (l0_1 : List (S25)) (a0_2 : Int) (a0_3 : Int) (a0_4 : Int) (A0_5 : Option Addr) (c0_5 : Nat) (l0_5 : List Int) (A0_6 : Option Addr) (c0_6 : Nat) (l0_6 : List (S102)) (a0_7 : Int) (A0_8 : Option Addr) (c0_8 : Nat) (l0_8 : List Int) (r : Bool) (w : World) (hr0_0 : Kd.C k25 w A0_0 l0_0.length l0_0) (hc0_0 : l0_0.length ≤ c0_0) (hr0_1 : Kd.C k25 w A0_1 l0_1.length l0_1) (hc0_1 : l0_1.length ≤ c0_1) (hr0_5 : Kd.C (Kd.int .i64) w A0_5 l0_5.length l0_5) (hc0_5 : l0_5.length ≤ c0_5) (hr0_6 : Kd.C k102 w A0_6 l0_6.length l0_6) (hc0_6 : l0_6.length ≤ c0_6) (hr0_8 : Kd.C (Kd.int .i64) w A0_8 l0_8.length l0_8) (hc0_8 : l0_8.length ≤ c0_8) (h : whirligiglaw10_WireWrites.f k l0_0 l0_1 a0_2 a0_3 a0_4 l0_5 l0_6 a0_7 l0_8 = some r) :
    Calls Try.prog 5 #[.agg #[.slice A0_0 l0_0.length c0_0, .slice A0_1 l0_1.length c0_1, .int .i64 a0_2, .int .i64 a0_3, .int .i64 a0_4, .slice A0_5 l0_5.length c0_5, .slice A0_6 l0_6.length c0_6, .int .i64 a0_7, .slice A0_8 l0_8.length c0_8]] w fun e w' => e = .returned (.bool r) ∧ Below w.heap.size w w' := by
  unfold whirligiglaw10_WireWrites.f at h
  split at h
  · rename_i hb
    obtain rfl := Option.some.inj h; simp only [Bool.and_eq_true, List.all_eq_true, decide_eq_true_eq] at hb; exact writes_calls w ⟨l0_0, l0_1, ⟨a0_2, a0_3, a0_4, l0_5, l0_6, a0_7, l0_8⟩⟩ A0_0 A0_1 A0_5 A0_6 A0_8 c0_0 c0_1 c0_5 c0_6 c0_8 ⟨hr0_0, hc0_0, hr0_1, hc0_1, hr0_5, hc0_5, hr0_6, hc0_6, hr0_8, hc0_8⟩ (fun x hx => hb.1 x hx) (fun x hx => hb.2 x hx)
  · cases h

end Go.Proofs.Ytjmpojfpbhihpaa.P

end
section
set_option linter.unusedVariables false
set_option linter.unusedSimpArgs false
namespace Go.Proofs.Ytjmpojfpbhihpaa
open Go.ChangeShapes Go.WideShapes Go.Proofs.YtjmpojfpbhihpaaW.PrintWords Go.Proofs.YtjmpojfpbhihpaaW.PrintLast Go.Proofs.YtjmpojfpbhihpaaW.PrintMore

def okI (k : IntKind) (n : Int) : Prop := (Lit.int k n).wf = true
def okL {α : Type} (B : Nat) (ok : α → Prop) (l : List α) : Prop := l.length * B ≤ 140737488351232 ∧ ∀ x, x ∈ l → ok x
theorem okI_u32 {n : Int} (h : okI .u32 n) : 0 ≤ n ∧ n ≤ 4294967295 := by
  unfold okI Lit.wf at h; simp [IntKind.min, IntKind.max, IntKind.bits, IntKind.signed] at h; omega
structure RV (P : Program) (t : TypeId) (α : Type) (d : Kd α) where
  ok : α → Prop
  sz : P.cellsOf t = d.sz
  opens : ∀ {H : Type} {enc : TypeId × Value → H} {w : World} {base : Nat} {spare : Nat → Bool} {held : Bool} {fuel : Nat} {cs : List Value} {x : DataW H × List MemPlace},
    DataW.trod enc P w base spare held fuel t cs = some x → (x.1.weights P t).all (· ≤ reachBytes) = true → ∃ a, d.K w a cs ∧ ok a
structure RF (P : Program) (fs : List Field) (off : Nat) (α : Type) where
  K : World → α → List Value → Prop
  ok : α → Prop
  opens : ∀ {H : Type} {enc : TypeId × Value → H} {w : World} {base : Nat} {spare : Nat → Bool} {held : Bool} {fuel : Nat} {cs : List Value} {ds : List (DataW H × List MemPlace)}, off ≤ cs.length →
    (∀ f, f ∈ fs → f.offset + P.cellsOf f.type ≤ cs.length) → (∀ (i : Nat) (f : Field), fs[i]? = some f → ∃ y, ds[i]? = some y ∧ DataW.trod enc P w base spare held fuel f.type ((cs.drop f.offset).take (P.cellsOf f.type)) = some y) →
    (DataW.weightsEach P (fs.map (·.type)) (ds.map (·.1))).all (· ≤ reachBytes) = true →
    (fs = [] → cs.length = off) → (∀ f, fs.getLast? = some f → f.offset + P.cellsOf f.type = cs.length) → ∃ a, K w a (cs.drop off) ∧ ok a

section
variable {P : Program} {t e : TypeId} {α β : Type} {d : Kd α}
def rInt (k : IntKind) (ht : P.underlying t = some (.int k)) (hc : P.cellsOf t = 1) : RV P t Int (Kd.int k) where
  ok := okI k
  sz := hc
  opens := fun h _ => by obtain ⟨n, h1, _, h3⟩ := DataW.trod_int ht h; exact ⟨n, h1, h3⟩
theorem RV.list_of_lt {n : Nat} {p : Nat → α → Prop} (h : ∀ i, i < n → ∃ x, p i x) : ∃ l : List α, l.length = n ∧ ∀ i x, l[i]? = some x → p i x := by
  rcases Nat.eq_zero_or_pos n with rfl | hn
  · exact ⟨[], rfl, fun i x hx => by simp at hx⟩
  · haveI : Inhabited α := ⟨Classical.choose (h 0 hn)⟩
    obtain ⟨f, hf⟩ := Go.Deep.choose_lt h; (refine ⟨(List.range n).map f, by simp, fun i x hx => ?_⟩); (have hi : i < n := by have := (List.getElem?_eq_some_iff.1 hx).1; simpa using this); (have e : ((List.range n).map f)[i]? = some (f i) := by simp [hi]); rw [e] at hx
    cases hx
    exact hf i hi
theorem add_add_ (a : Addr) (p q : Nat) : (a.add p).add q = a.add (p + q) := by
  unfold Addr.add
  by_cases hp : p = 0
  · subst hp; simp
  · by_cases hq : q = 0
    · subst hq; simp [hp]
    · have : p + q ≠ 0 := by omega
      simp [hp, hq, this, Nat.add_assoc]
theorem weights_elem {H : Type} {P : Program} {e : TypeId} {l : List (DataW H)} {B : Nat} (h : (DataW.weightsAll P e l).all (· ≤ B) = true) {x : DataW H} (hx : x ∈ l) : (x.weights P e).all (· ≤ B) = true := by
  induction l with
  | nil => simp at hx
  | cons y l ih =>
    rw [DataW.weightsAll, List.all_append, Bool.and_eq_true] at h
    rcases List.mem_cons.1 hx with rfl | hx
    · exact h.1
    · exact ih h.2 hx
def rSlice {B : Nat} (ht : P.underlying t = some (.slice e)) (hc : P.cellsOf t = 1) (hB : P.bytesOf e = B) (hp : 0 < d.sz) (hB1 : 1 ≤ B) (V : RV P e α d) : RV P t (List α) (Kd.slice e d) where
  ok := okL B V.ok
  sz := hc
  opens := fun {H enc w base spare held fuel cs x} h hw => by
    rcases Go.Deep.open_slice ht h with ⟨h0, _⟩ | ⟨a, len, cap, m, f, D, Pl, h1, hb, hl, hm, hmm, hx, hcc⟩
    · exact ⟨[], ⟨none, 0, h0, Nat.le_refl _, ⟨rfl, by simp, fun h => absurd h (by simp)⟩⟩, by simp [okL]⟩
    · have hlm : len ≤ m := by rw [hmm]; split <;> omega
      have hw' := hw; rw [hx] at hw'; simp only [DataW.weights, ht, List.all_cons, List.length_map, List.length_range, Bool.and_eq_true, List.all_append] at hw'; obtain ⟨w1, w2, _⟩ := hw'; (have w1' : (len + (m - len)) * B ≤ 140737488351232 := by rw [← hB]; exact of_decide_eq_true w1)
      have one : ∀ i, i < len → ∃ x, ∃ cs', cs'.length = d.sz ∧ (∀ j u, cs'[j]? = some u → w.cell? (a.add (i * d.sz + j)) = some u) ∧ d.K w x cs' ∧ V.ok x := by
        intro i hi; (obtain ⟨cs', k1, k2⟩ := hcc i (by omega)); obtain ⟨_, hlen, hcell⟩ := World.cells?_some k1; have hwi := weights_elem w2 (List.mem_map.2 ⟨i, List.mem_range.2 hi, rfl⟩); obtain ⟨y, hy, hok⟩ := V.opens k2 hwi; rw [V.sz] at hlen hcell; (refine ⟨y, cs', hlen, fun j u hj => ?_, hy, hok⟩); (have hj' : j < d.sz := by have := (List.getElem?_eq_some_iff.1 hj).1; omega); have := hcell j hj'; rw [add_add_, hj] at this; exact this
      obtain ⟨l, hl', hall⟩ := RV.list_of_lt one
      have hlb : len ≤ 9223372036854775807 := by
        (have : len * 1 ≤ (len + (m - len)) * B := Nat.mul_le_mul (by omega) hB1); omega
      refine ⟨l, ⟨some a, cap, by rw [h1, hl'], by omega, ⟨rfl, by omega, fun _ => ⟨a, rfl, fun j p hj => ?_⟩⟩⟩, ?_, ?_⟩
      · obtain ⟨cs', q1, q2, q3, _⟩ := hall j p hj
        exact ⟨cs', q1, q3, q2⟩
      · rw [hl']
        exact Nat.le_trans (Nat.mul_le_mul_right _ (by omega)) w1'
      · intro x hx
        obtain ⟨i, hi⟩ := List.getElem?_of_mem hx; obtain ⟨_, _, _, _, q⟩ := hall i x hi; exact q
def fNil (off : Nat) : RF P [] off Unit where
  K := fun _ _ cs => cs = []
  ok := fun _ => True
  opens := fun _ _ _ _ h0 _ => ⟨(), by have := h0 rfl; simp [← this], trivial⟩
def fCons (f : Field) {fs : List Field} {off n : Nat} (ho : f.offset = off) (hn : P.cellsOf f.type = n) {d : Kd α} (V : RV P f.type α d) (F : RF P fs (off + n) β) : RF P (f :: fs) off (α × β) where
  K := fun w x cs => ∃ c c', cs = c ++ c' ∧ d.K w x.1 c ∧ F.K w x.2 c'
  ok := fun x => V.ok x.1 ∧ F.ok x.2
  opens := fun {H enc w base spare held fuel cs ds} hoff hle hy hw h0 hlast => by
    obtain ⟨y, hy1, hy0⟩ := hy 0 f rfl
    obtain ⟨ds, rfl⟩ : ∃ l, ds = y :: l := by
      cases ds with
      | nil => simp at hy1
      | cons z l => simp at hy1; subst hy1; exact ⟨l, rfl⟩
    rw [List.map_cons, List.map_cons, DataW.weightsEach, List.all_append, Bool.and_eq_true] at hw; obtain ⟨a, ha, hka⟩ := V.opens hy0 hw.1; (have hl0 := hle f (by simp)); rw [ho, hn] at hl0
    obtain ⟨b, hb, hkb⟩ := F.opens (cs := cs) (ds := ds) hl0 (fun g hg => hle g (by simp [hg])) (fun i g hg => hy (i + 1) g hg) hw.2 (fun h => by subst h; have := hlast f (by simp); rw [ho, hn] at this; exact this.symm)
      (fun g hg => hlast g (by cases fs with | nil => simp at hg | cons z zs => rw [List.getLast?_cons_cons]; exact hg))
    refine ⟨(a, b), ⟨(cs.drop off).take n, cs.drop (off + n), ?_, ?_, hb⟩, hka, hkb⟩
    · rw [← List.drop_drop, List.take_append_drop]
    · rw [ho, hn] at ha; exact ha
def fitsB (P : Program) (t : TypeId) (fs : List Field) : Bool := fs.all (fun f => decide (f.offset + P.cellsOf f.type ≤ P.cellsOf t)) && (match fs.getLast? with | some f => f.offset + P.cellsOf f.type == P.cellsOf t | none => P.cellsOf t == 0)
def rStruct {fs : Array Field} (ht : P.underlying t = some (.struct fs)) (hf : fitsB P t fs.toList = true) {d : Kd β} (hc : P.cellsOf t = d.sz) (F : RF P fs.toList 0 α) (f : α → β) (hK : ∀ w x cs, F.K w x cs → d.K w (f x) cs) (ok : β → Prop) (hok : ∀ x, F.ok x → ok (f x)) : RV P t β d where
  ok := ok
  sz := hc
  opens := fun {H enc w base spare held fuel cs x} h hw => by
    obtain ⟨xs, n, _, rfl, hl, hxl, hx⟩ := DataW.trod_struct ht h
    unfold fitsB at hf
    rw [Bool.and_eq_true] at hf; obtain ⟨f1, f2⟩ := hf; simp only [DataW.weights, ht] at hw
    obtain ⟨a, ha, hka⟩ := F.opens (enc := enc) (w := w) (base := base) (spare := spare) (held := held) (fuel := n) (cs := cs) (ds := xs) (Nat.zero_le _)
      (fun f hf => by rw [hl]; exact of_decide_eq_true (List.all_eq_true.1 f1 f hf))
      (fun i f hi => by
        have hi' : fs[i]? = some f := by rw [← Array.getElem?_toList]; exact hi
        have hlt : i < fs.size := by
          have := (List.getElem?_eq_some_iff.1 hi).1
          simpa using this
        have z := hx i f hi'; rw [z]
        exact ⟨_, List.getElem?_eq_getElem (by omega), List.getElem?_eq_getElem (by omega)⟩)
      hw
      (fun h0 => by rw [h0] at f2; simp at f2; rw [hl]; exact f2)
      (fun f hf => by rw [hf] at f2; simp at f2; rw [hl]; exact f2)
    exact ⟨f a, hK _ _ _ (by simpa using ha), hok a hka⟩
end
end Go.Proofs.Ytjmpojfpbhihpaa

end
section
namespace Go.Proofs.Ytjmpojfpbhihpaa.P
open Go.Proofs.YtjmpojfpbhihpaaW.PrintWords Go.Proofs.YtjmpojfpbhihpaaW.PrintLast Go.Proofs.YtjmpojfpbhihpaaW.PrintMore
set_option linter.unusedVariables false
def r3 : RV Try.prog 3 Int (Kd.int .i64) := rInt .i64 Try.underlying3 (by kernel_rfl)
def r23 : RV Try.prog 23 Int (Kd.int .u32) := rInt .u32 Try.underlying23 (by kernel_rfl)
def ok25 (x : S25) : Prop := (okI .u32) x.f0 ∧ (okI .i64) x.f1
def r25 : RV Try.prog 25 S25 k25 := rStruct Try.underlying25 (by kernel_rfl) (by kernel_rfl) (fCons (n := 1) _ rfl (by kernel_rfl) r23 (fCons (n := 1) _ rfl (by kernel_rfl) r3 (fNil _))) (fun x => ⟨x.1, x.2.1⟩) (by rintro w x cs ⟨c0, _, rfl, h0, c1, _, rfl, h1, rfl⟩; exact ⟨c0, _, rfl, h0, (by rw [List.append_nil]; exact h1)⟩) ok25 (fun x h => ⟨h.1, h.2.1⟩)
def r37 : RV Try.prog 37 (List (S25)) (Kd.slice 25 k25) := rSlice (B := 16) Try.underlying37 (by kernel_rfl) (by kernel_rfl) (by decide) (by decide) r25
def r38 : RV Try.prog 38 (List (Int)) (Kd.slice 3 (Kd.int .i64)) := rSlice (B := 8) Try.underlying38 (by kernel_rfl) (by kernel_rfl) (by decide) (by decide) r3
def ok102 (x : S102) : Prop := (okI .i64) x.f0 ∧ (okI .i64) x.f1
def r102 : RV Try.prog 102 S102 k102 := rStruct Try.underlying102 (by kernel_rfl) (by kernel_rfl) (fCons (n := 1) _ rfl (by kernel_rfl) r3 (fCons (n := 1) _ rfl (by kernel_rfl) r3 (fNil _))) (fun x => ⟨x.1, x.2.1⟩) (by rintro w x cs ⟨c0, _, rfl, h0, c1, _, rfl, h1, rfl⟩; exact ⟨c0, _, rfl, h0, (by rw [List.append_nil]; exact h1)⟩) ok102 (fun x h => ⟨h.1, h.2.1⟩)
def r39 : RV Try.prog 39 (List (S102)) (Kd.slice 102 k102) := rSlice (B := 16) Try.underlying39 (by kernel_rfl) (by kernel_rfl) (by decide) (by decide) r102
def ok41 (x : S41) : Prop := (okI .i64) x.f0 ∧ (okI .i64) x.f1 ∧ (okI .i64) x.f2 ∧ (okL 8 (okI .i64)) x.f3 ∧ (okL 16 (ok102)) x.f4 ∧ (okI .i64) x.f5 ∧ (okL 8 (okI .i64)) x.f6
def r41 : RV Try.prog 41 S41 k41 := rStruct Try.underlying41 (by kernel_rfl) (by kernel_rfl) (fCons (n := 1) _ rfl (by kernel_rfl) r3 (fCons (n := 1) _ rfl (by kernel_rfl) r3 (fCons (n := 1) _ rfl (by kernel_rfl) r3 (fCons (n := 1) _ rfl (by kernel_rfl) r38 (fCons (n := 1) _ rfl (by kernel_rfl) r39 (fCons (n := 1) _ rfl (by kernel_rfl) r3 (fCons (n := 1) _ rfl (by kernel_rfl) r38 (fNil _)))))))) (fun x => ⟨x.1, x.2.1, x.2.2.1, x.2.2.2.1, x.2.2.2.2.1, x.2.2.2.2.2.1, x.2.2.2.2.2.2.1⟩) (by rintro w x cs ⟨c0, _, rfl, h0, c1, _, rfl, h1, c2, _, rfl, h2, c3, _, rfl, h3, c4, _, rfl, h4, c5, _, rfl, h5, c6, _, rfl, h6, rfl⟩; exact ⟨c0, _, rfl, h0, ⟨c1, _, rfl, h1, ⟨c2, _, rfl, h2, ⟨c3, _, rfl, h3, ⟨c4, _, rfl, h4, ⟨c5, _, rfl, h5, (by rw [List.append_nil]; exact h6)⟩⟩⟩⟩⟩⟩) ok41 (fun x h => ⟨h.1, h.2.1, h.2.2.1, h.2.2.2.1, h.2.2.2.2.1, h.2.2.2.2.2.1, h.2.2.2.2.2.2.1⟩)
def ok43 (x : S43) : Prop := (okL 16 (ok25)) x.f0 ∧ (okL 16 (ok25)) x.f1 ∧ (ok41) x.f2
def r43 : RV Try.prog 43 S43 k43 := rStruct Try.underlying43 (by kernel_rfl) (by kernel_rfl) (fCons (n := 1) _ rfl (by kernel_rfl) r37 (fCons (n := 1) _ rfl (by kernel_rfl) r37 (fCons (n := 7) _ rfl (by kernel_rfl) r41 (fNil _)))) (fun x => ⟨x.1, x.2.1, x.2.2.1⟩) (by rintro w x cs ⟨c0, _, rfl, h0, c1, _, rfl, h1, c2, _, rfl, h2, rfl⟩; exact ⟨c0, _, rfl, h0, ⟨c1, _, rfl, h1, (by rw [List.append_nil]; exact h2)⟩⟩) ok43 (fun x h => ⟨h.1, h.2.1, h.2.2.1⟩)
end Go.Proofs.Ytjmpojfpbhihpaa.P

end
section
namespace Go.Proofs.Ytjmpojfpbhihpaa.Pure
open Go.RowKit Go.Proofs.Ytjmpojfpbhihpaa.P Go.Proofs.YtjmpojfpbhihpaaW.PrintWords Go.Proofs.YtjmpojfpbhihpaaW.PrintLast Go.Proofs.YtjmpojfpbhihpaaW.PrintMore
set_option linter.unusedVariables false

theorem WireWrites (x0 : S43) (ok_0 : (ok43) x0) : ∃ k, Go.Proofs.Ytjmpojfpbhihpaa.P.whirligiglaw10_WireWrites.f k x0.f0 x0.f1 x0.f2.f0 x0.f2.f1 x0.f2.f2 x0.f2.f3 x0.f2.f4 x0.f2.f5 x0.f2.f6 = some true := by
  have h : whirligiglaw10_WireWrites.f 0 x0.f0 x0.f1 x0.f2.f0 x0.f2.f1 x0.f2.f2 x0.f2.f3 x0.f2.f4 x0.f2.f5 x0.f2.f6 = some true := by
    unfold whirligiglaw10_WireWrites.f
    refine if_pos ?_; simp only [Bool.and_eq_true, List.all_eq_true, decide_eq_true_eq]; (exact ⟨fun x hx => okI_u32 (ok_0.1.2 x hx).1, fun x hx => okI_u32 (ok_0.2.1.2 x hx).1⟩)
  exact ⟨0, h⟩
end Go.Proofs.Ytjmpojfpbhihpaa.Pure

end
