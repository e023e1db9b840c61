/- Part of the proof of RowWireSplits: what it asks of functions, words and plain facts (put together by this session's own program, wip/tools/shake.py). -/
import Derived.Test.YtjmpojfpbhihpaaZWireSplits0
import Derived.Test.YtjmpojfpbhihpaaZWireSplits1
import Derived.Test.YtjmpojfpbhihpaaZWireSplits2
import Derived.Test.YtjmpojfpbhihpaaZWireSplits3
import Derived.Test.YtjmpojfpbhihpaaZWireSplits4
import Derived.Lib.Bytes
section
namespace Go.Proofs.Ytjmpojfpbhihpaa.P
open Go.RowKit Go.Proofs.YtjmpojfpbhihpaaW.PrintWords Go.Proofs.YtjmpojfpbhihpaaW.PrintLast Go.Proofs.YtjmpojfpbhihpaaW.PrintMore
attribute [local go_sem] max2_int min2_int max_two min_two max_three min_three max_four min_four   -- for this text's walks alone
set_option linter.unusedVariables false
set_option linter.unusedSimpArgs false

def bytes_Count.f (l0 l1 : List Int) : Option Int := match l1 with
  | [c] => if 0 < l0.length then some ((Lib.countByte (Lib.bytesOf l0) c.toNat.toUInt8 : Nat) : Int) else none
  | _ => none
theorem bytes_Count.calls (A0 : Option Addr) (c0 : Nat) (l0 : List Int) (A1 : Option Addr) (c1 : Nat) (l1 : List Int) (r : Int) (w : World) (hr0 : Kd.C (Kd.int .u8) w A0 l0.length l0) (hc0 : l0.length ≤ c0) (hr1 : Kd.C (Kd.int .u8) w A1 l1.length l1) (hc1 : l1.length ≤ c1) (h : bytes_Count.f l0 l1 = some r) :
    Calls Try.prog 30 #[.slice A0 l0.length c0, .slice A1 l1.length c1] w fun e w' => e = .returned (.int .i64 r) ∧ Drawn0 w w' := by
  unfold bytes_Count.f at h
  split at h
  · rename_i c
    split at h
    · rename_i hp
      obtain rfl := Option.some.inj h
      obtain ⟨b, o, rfl, _, hc⟩ := C_at hr0 (by decide) hp
      obtain ⟨b2, o2, rfl, _, hc2⟩ := C_at hr1 (by decide) (by simp)
      refine (Try.bytes_Count_one b o l0.length c0 b2 o2 c1 l0 c w rfl (fun i hi => ?_) ?_).mono ?_
      · obtain ⟨x, hx⟩ : ∃ x, l0[i]? = some x := ⟨_, List.getElem?_eq_getElem (h := hi)⟩
        obtain ⟨cs, _, hk, hcc⟩ := hc i x hx
        have hk' : cs = [.int .u8 x] := hk
        subst hk'
        have := hcc 0 _ rfl
        rw [List.getD_eq_getElem?_getD, hx]
        simpa [Kd.int, Kd.scalar] using this
      · obtain ⟨cs, _, hk, hcc⟩ := hc2 0 c rfl
        have hk' : cs = [.int .u8 c] := hk
        subst hk'
        have := hcc 0 _ rfl
        simpa [Kd.int, Kd.scalar] using this
      · rintro e w' ⟨rfl, rfl⟩
        exact ⟨rfl, Drawn0.refl _⟩
    · cases h
  · cases h

mutual
def wire_Split.l0 : Nat → List Int → List (List Int) → Int → Option ((List (List Int)) × Int × Int)
  | 0, _, _, _ => none
  | k + 1, x0, x5, x6 => if (wrap64 ((x0.length : Int) - x6)) ≥ 19 then (if 0 ≤ (wrap64 (x6 + 16)) then (if (wrap64 (x6 + 16)) < (x0.length : Int) then (if 0 ≤ (wrap64 ((wrap64 (x6 + 16)) + 1)) then (if (wrap64 ((wrap64 (x6 + 16)) + 1)) < (x0.length : Int) then (if 0 ≤ (wrap64 ((wrap64 (x6 + 19)) - 1)) then (if (wrap64 ((wrap64 (x6 + 19)) - 1)) < (x0.length : Int) then (if 0 ≤ x6 then (if x6 ≤ (wrap64 (x6 + 16)) then (if (wrap64 (x6 + 16)) ≤ (x0.length : Int) then ((bytes_Count.f ((x0.take ((wrap64 (x6 + 16)) : Int).toNat).drop (x6 : Int).toNat) (([255] : List Int))).bind fun t270 => (if t270 < 16 then (wire_Split.j1 k x0 x5 x6 (Go.bits .or .i64 (wrap64 ((wrap64 (rd x0 (wrap64 (x6 + 16)))) * 256)) (wrap64 (rd x0 (wrap64 ((wrap64 (x6 + 16)) + 1))))) true) else (if (Go.bits .or .i64 (wrap64 ((wrap64 (rd x0 (wrap64 (x6 + 16)))) * 256)) (wrap64 (rd x0 (wrap64 ((wrap64 (x6 + 16)) + 1))))) < 19 then (wire_Split.j1 k x0 x5 x6 (Go.bits .or .i64 (wrap64 ((wrap64 (rd x0 (wrap64 (x6 + 16)))) * 256)) (wrap64 (rd x0 (wrap64 ((wrap64 (x6 + 16)) + 1))))) true) else (if (Go.bits .or .i64 (wrap64 ((wrap64 (rd x0 (wrap64 (x6 + 16)))) * 256)) (wrap64 (rd x0 (wrap64 ((wrap64 (x6 + 16)) + 1))))) > 4096 then (wire_Split.j1 k x0 x5 x6 (Go.bits .or .i64 (wrap64 ((wrap64 (rd x0 (wrap64 (x6 + 16)))) * 256)) (wrap64 (rd x0 (wrap64 ((wrap64 (x6 + 16)) + 1))))) true) else (if (rd x0 (wrap64 ((wrap64 (x6 + 19)) - 1))) < 1 then (wire_Split.j1 k x0 x5 x6 (Go.bits .or .i64 (wrap64 ((wrap64 (rd x0 (wrap64 (x6 + 16)))) * 256)) (wrap64 (rd x0 (wrap64 ((wrap64 (x6 + 16)) + 1))))) true) else (wire_Split.j1 k x0 x5 x6 (Go.bits .or .i64 (wrap64 ((wrap64 (rd x0 (wrap64 (x6 + 16)))) * 256)) (wrap64 (rd x0 (wrap64 ((wrap64 (x6 + 16)) + 1))))) (decide ((rd x0 (wrap64 ((wrap64 (x6 + 19)) - 1))) > 4)))))))) else (none)) else (none)) else (none)) else (none)) else (none)) else (none)) else (none)) else (none)) else (none)) else (some (x5, x6, 0))
def wire_Split.j1 : Nat → List Int → List (List Int) → Int → Int → Bool → Option ((List (List Int)) × Int × Int)
  | 0, _, _, _, _, _ => none
  | k + 1, x0, x5, x6, x7, x58 => if x58 = true then (some (x5, x6, 4)) else (if x7 > (wrap64 ((x0.length : Int) - x6)) then (some (x5, x6, 0)) else (if 0 ≤ x6 then (if x6 ≤ (wrap64 (x6 + x7)) then (if (wrap64 (x6 + x7)) ≤ (x0.length : Int) then ((bytes_Clone.f ((x0.take ((wrap64 (x6 + x7)) : Int).toNat).drop (x6 : Int).toNat)).bind fun t272 => (if x5.length < 5864062014805 then (wire_Split.l0 k x0 (x5 ++ [t272]) (wrap64 (x6 + x7))) else (none))) else (none)) else (none)) else (none)))
end
def wire_Split.f (k : Nat) (l0 : List Int) : Option ((List (List Int)) × Int × Int) := wire_Split.l0 k l0 ([] : List (List Int)) 0
set_option maxHeartbeats 8000000 in
set_option maxRecDepth 100000 in
theorem wire_Split.calls (k : Nat) (A0 : Option Addr) (c0 : Nat) (l0 : List Int) (r1 : List (List Int)) (r2 : Int) (r3 : Int) (w : World) (hr0 : Kd.C (Kd.int .u8) w A0 l0.length l0) (hc0 : l0.length ≤ c0) (h : wire_Split.f k l0 = some (r1, r2, r3)) :
  Calls Try.prog 14 #[.slice A0 l0.length c0] w fun e w' => ∃ v0_ : Value, e = .returned (.tuple #[v0_, .int .i64 r2, .int .i64 r3]) ∧ Kd.S (Kd.slice 5 (Kd.int .u8)) 22 w' w.heap.size (fun _ => True) v0_ r1 ∧ Below w.heap.size w w' := by
 have am := Aside0.mk hr0
 have HC0 := Aside0.mk hc0
 clear hr0 hc0
 have HB := Aside0.mk (Below.refl w.heap.size w)
 have H : (wire_Split.l0 k l0 ([] : List (List Int)) 0) = some (r1, r2, r3) := h
 clear h
 have H' := Aside0.mk H
 clear H
 go_enter Try.func14, Try.ntmps14
 go_wp2
 repeat (go_quiet (fail); try go_wp2)
 go_loopg [5, 6] k (fun kq v5 v6 w' => ∃ (x5_1 : List (List Int)) (x6_1 : Int), v6 = .int .i64 x6_1 ∧ Aside0 (wire_Split.l0 kq l0 x5_1 x6_1 = some (r1, r2, r3)) ∧ Aside0 (kq ≤ k) ∧ Aside0 (Kd.S (Kd.slice 5 (Kd.int .u8)) 22 w' w.heap.size (fun _ => True) v5 x5_1) ∧ Aside0 (Below w.heap.size w w'))
 case atStart => exact ⟨(([] : List (List Int))), (0), (by first | rfl | (simp; done) | (simp [*]; done)), H', ⟨Nat.le_refl _⟩, ⟨by first | exact Kd.S_nil _ _ _ _ _ | exact Kd.N_nil _ _ _ _ _ | exact Kd.V_nil _ _ _ _ _ | exact Kd.Q_nil _ _ _ _ _ | exact Kd.R_nil _ _ _ _ _⟩, ⟨by repeat (first | (with_reducible first | exact HB.out | apply below_alloc | apply pw_below_drewN | apply below_drew1) | exact HB.out)⟩⟩
 case round =>
  clear H'
  try clear c1
  obtain ⟨x5_1, x6_1, rfl, HA, HK1, HO_5, HB⟩ := hrel
  cases gk with
  | zero => exact absurd HA.out (by simp [wire_Split.l0])
  | succ k1 =>
   have H := HA.out
   clear HA
   simp only [wire_Split.l0] at H
   by_cases c2 : (wrap64 ((l0.length : Int) - x6_1)) ≥ 19
   ·rw [if_pos c2] at H
    have c2b0 : decide (19 ≤ (wrap64 ((l0.length : Int) - x6_1))) = true := decide_eq_true c2
    clear c2
    obtain ⟨aa, hji3⟩ : ∃ j_ : Int, (wrap64 (x6_1 + 16)) = j_ := ⟨_, rfl⟩
    replace H : (if 0 ≤ (aa) then (if (aa) < (l0.length : Int) then (if 0 ≤ (wrap64 ((aa) + 1)) then (if (wrap64 ((aa) + 1)) < (l0.length : Int) then (if 0 ≤ (wrap64 ((wrap64 (x6_1 + 19)) - 1)) then (if (wrap64 ((wrap64 (x6_1 + 19)) - 1)) < (l0.length : Int) then (if 0 ≤ x6_1 then (if x6_1 ≤ (aa) then (if (aa) ≤ (l0.length : Int) then ((bytes_Count.f ((l0.take ((aa) : Int).toNat).drop (x6_1 : Int).toNat) (([255] : List Int))).bind fun t270 => (if t270 < 16 then (wire_Split.j1 k1 l0 x5_1 x6_1 (Go.bits .or .i64 (wrap64 ((wrap64 (rd l0 (aa))) * 256)) (wrap64 (rd l0 (wrap64 ((aa) + 1))))) true) else (if (Go.bits .or .i64 (wrap64 ((wrap64 (rd l0 (aa))) * 256)) (wrap64 (rd l0 (wrap64 ((aa) + 1))))) < 19 then (wire_Split.j1 k1 l0 x5_1 x6_1 (Go.bits .or .i64 (wrap64 ((wrap64 (rd l0 (aa))) * 256)) (wrap64 (rd l0 (wrap64 ((aa) + 1))))) true) else (if (Go.bits .or .i64 (wrap64 ((wrap64 (rd l0 (aa))) * 256)) (wrap64 (rd l0 (wrap64 ((aa) + 1))))) > 4096 then (wire_Split.j1 k1 l0 x5_1 x6_1 (Go.bits .or .i64 (wrap64 ((wrap64 (rd l0 (aa))) * 256)) (wrap64 (rd l0 (wrap64 ((aa) + 1))))) true) else (if (rd l0 (wrap64 ((wrap64 (x6_1 + 19)) - 1))) < 1 then (wire_Split.j1 k1 l0 x5_1 x6_1 (Go.bits .or .i64 (wrap64 ((wrap64 (rd l0 (aa))) * 256)) (wrap64 (rd l0 (wrap64 ((aa) + 1))))) true) else (wire_Split.j1 k1 l0 x5_1 x6_1 (Go.bits .or .i64 (wrap64 ((wrap64 (rd l0 (aa))) * 256)) (wrap64 (rd l0 (wrap64 ((aa) + 1))))) (decide ((rd l0 (wrap64 ((wrap64 (x6_1 + 19)) - 1))) > 4)))))))) else (none)) else (none)) else (none)) else (none)) else (none)) else (none)) else (none)) else (none)) else (none)) = some (r1, r2, r3) := by first | (rw [hji3] at H; exact H) | (simp only [hji3] at H ⊢; exact H)
    have hji3w : (IntKind.i64.wrap (x6_1 + 16)) = aa := (i64_w _).trans hji3
    by_cases c4 : 0 ≤ (aa)
    ·rw [if_pos c4] at H
     have c4b0 : decide (0 ≤ (aa)) = true := decide_eq_true c4
     clear c4
     by_cases c5 : (aa) < (l0.length : Int)
     ·rw [if_pos c5] at H
      have c5b0 : decide ((aa) < (l0.length : Int)) = true := decide_eq_true c5
      clear c5
      obtain ⟨ad, hji6⟩ : ∃ j_ : Int, (wrap64 ((aa) + 1)) = j_ := ⟨_, rfl⟩
      replace H : (if 0 ≤ (ad) then (if (ad) < (l0.length : Int) then (if 0 ≤ (wrap64 ((wrap64 (x6_1 + 19)) - 1)) then (if (wrap64 ((wrap64 (x6_1 + 19)) - 1)) < (l0.length : Int) then (if 0 ≤ x6_1 then (if x6_1 ≤ (aa) then (if (aa) ≤ (l0.length : Int) then ((bytes_Count.f ((l0.take ((aa) : Int).toNat).drop (x6_1 : Int).toNat) (([255] : List Int))).bind fun t270 => (if t270 < 16 then (wire_Split.j1 k1 l0 x5_1 x6_1 (Go.bits .or .i64 (wrap64 ((wrap64 (rd l0 (aa))) * 256)) (wrap64 (rd l0 (ad)))) true) else (if (Go.bits .or .i64 (wrap64 ((wrap64 (rd l0 (aa))) * 256)) (wrap64 (rd l0 (ad)))) < 19 then (wire_Split.j1 k1 l0 x5_1 x6_1 (Go.bits .or .i64 (wrap64 ((wrap64 (rd l0 (aa))) * 256)) (wrap64 (rd l0 (ad)))) true) else (if (Go.bits .or .i64 (wrap64 ((wrap64 (rd l0 (aa))) * 256)) (wrap64 (rd l0 (ad)))) > 4096 then (wire_Split.j1 k1 l0 x5_1 x6_1 (Go.bits .or .i64 (wrap64 ((wrap64 (rd l0 (aa))) * 256)) (wrap64 (rd l0 (ad)))) true) else (if (rd l0 (wrap64 ((wrap64 (x6_1 + 19)) - 1))) < 1 then (wire_Split.j1 k1 l0 x5_1 x6_1 (Go.bits .or .i64 (wrap64 ((wrap64 (rd l0 (aa))) * 256)) (wrap64 (rd l0 (ad)))) true) else (wire_Split.j1 k1 l0 x5_1 x6_1 (Go.bits .or .i64 (wrap64 ((wrap64 (rd l0 (aa))) * 256)) (wrap64 (rd l0 (ad)))) (decide ((rd l0 (wrap64 ((wrap64 (x6_1 + 19)) - 1))) > 4)))))))) else (none)) else (none)) else (none)) else (none)) else (none)) else (none)) else (none)) = some (r1, r2, r3) := by first | (rw [hji6] at H; exact H) | (simp only [hji6] at H ⊢; exact H)
      have hji6w : (IntKind.i64.wrap ((aa) + 1)) = ad := (i64_w _).trans hji6
      by_cases c7 : 0 ≤ (ad)
      ·rw [if_pos c7] at H
       have c7b0 : decide (0 ≤ (ad)) = true := decide_eq_true c7
       clear c7
       by_cases c8 : (ad) < (l0.length : Int)
       ·rw [if_pos c8] at H
        have c8b0 : decide ((ad) < (l0.length : Int)) = true := decide_eq_true c8
        clear c8
        obtain ⟨ai, hji9⟩ : ∃ j_ : Int, (wrap64 ((wrap64 (x6_1 + 19)) - 1)) = j_ := ⟨_, rfl⟩
        replace H : (if 0 ≤ (ai) then (if (ai) < (l0.length : Int) then (if 0 ≤ x6_1 then (if x6_1 ≤ (aa) then (if (aa) ≤ (l0.length : Int) then ((bytes_Count.f ((l0.take ((aa) : Int).toNat).drop (x6_1 : Int).toNat) (([255] : List Int))).bind fun t270 => (if t270 < 16 then (wire_Split.j1 k1 l0 x5_1 x6_1 (Go.bits .or .i64 (wrap64 ((wrap64 (rd l0 (aa))) * 256)) (wrap64 (rd l0 (ad)))) true) else (if (Go.bits .or .i64 (wrap64 ((wrap64 (rd l0 (aa))) * 256)) (wrap64 (rd l0 (ad)))) < 19 then (wire_Split.j1 k1 l0 x5_1 x6_1 (Go.bits .or .i64 (wrap64 ((wrap64 (rd l0 (aa))) * 256)) (wrap64 (rd l0 (ad)))) true) else (if (Go.bits .or .i64 (wrap64 ((wrap64 (rd l0 (aa))) * 256)) (wrap64 (rd l0 (ad)))) > 4096 then (wire_Split.j1 k1 l0 x5_1 x6_1 (Go.bits .or .i64 (wrap64 ((wrap64 (rd l0 (aa))) * 256)) (wrap64 (rd l0 (ad)))) true) else (if (rd l0 (ai)) < 1 then (wire_Split.j1 k1 l0 x5_1 x6_1 (Go.bits .or .i64 (wrap64 ((wrap64 (rd l0 (aa))) * 256)) (wrap64 (rd l0 (ad)))) true) else (wire_Split.j1 k1 l0 x5_1 x6_1 (Go.bits .or .i64 (wrap64 ((wrap64 (rd l0 (aa))) * 256)) (wrap64 (rd l0 (ad)))) (decide ((rd l0 (ai)) > 4)))))))) else (none)) else (none)) else (none)) else (none)) else (none)) = some (r1, r2, r3) := by first | (rw [hji9] at H; exact H) | (simp only [hji9] at H ⊢; exact H)
        have hji9w : (IntKind.i64.wrap ((wrap64 (x6_1 + 19)) - 1)) = ai := (i64_w _).trans hji9
        by_cases c10 : 0 ≤ (ai)
        ·rw [if_pos c10] at H
         have c10b0 : decide (0 ≤ (ai)) = true := decide_eq_true c10
         clear c10
         by_cases c11 : (ai) < (l0.length : Int)
         ·rw [if_pos c11] at H
          have c11b0 : decide ((ai) < (l0.length : Int)) = true := decide_eq_true c11
          clear c11
          have HC12 := Aside0.mk H
          clear H
          have p263 : 0 ≤ ((aa) : Int) := of_decide_eq_true (by first | (with_reducible assumption) | assumption)
          have q263 : (aa) < (l0.length : Int) := of_decide_eq_true (by first | (with_reducible assumption) | assumption)
          obtain ⟨ad263, e263, hx263_0⟩ := Kd.at_int am.out (aa) p263 q263
          (try (injection e263 with e263; replace e263 := e263.symm; subst e263; have e263 : True := trivial))
          cases e263
          replace hx263_0 := (HB.out.cell (World.block_lt_of_cell? w _ hx263_0)).trans hx263_0
          replace p263 := eq_true p263
          replace q263 := eq_true q263
          have p264 : 0 ≤ ((ad) : Int) := of_decide_eq_true (by first | (with_reducible assumption) | assumption)
          have q264 : (ad) < (l0.length : Int) := of_decide_eq_true (by first | (with_reducible assumption) | assumption)
          obtain ⟨ad264, e264, hx264_0⟩ := Kd.at_int am.out (ad) p264 q264
          obtain rfl : ad263 = ad264 := (by injection e264)
          replace hx264_0 := (HB.out.cell (World.block_lt_of_cell? w _ hx264_0)).trans hx264_0
          replace p264 := eq_true p264
          replace q264 := eq_true q264
          have p265 : 0 ≤ ((ai) : Int) := of_decide_eq_true (by first | (with_reducible assumption) | assumption)
          have q265 : (ai) < (l0.length : Int) := of_decide_eq_true (by first | (with_reducible assumption) | assumption)
          obtain ⟨ad265, e265, hx265_0⟩ := Kd.at_int am.out (ai) p265 q265
          obtain rfl : ad263 = ad265 := (by injection e265)
          replace hx265_0 := (HB.out.cell (World.block_lt_of_cell? w _ hx265_0)).trans hx265_0
          replace p265 := eq_true p265
          replace q265 := eq_true q265
          go_upto_region 6 with (fail)
          repeat (go_quiet (fail); go_upto_region 6 with (fail))
          go_cut [58] (fun v58 wc => ∃ (kq : Nat) (x58_11 : Bool), v58 = .bool x58_11 ∧ Aside0 (wire_Split.j1 kq l0 x5_1 x6_1 (Go.bits .or .i64 (wrap64 ((wrap64 (rd l0 (aa))) * 256)) (wrap64 (rd l0 (ad)))) x58_11 = some (r1, r2, r3)) ∧ Aside0 (kq ≤ k1) ∧ Aside0 (Kd.S (Kd.slice 5 (Kd.int .u8)) 22 wc w.heap.size (fun _ => True) u5 x5_1) ∧ Aside0 (Below w.heap.size w wc))
          case first =>
           have H := HC12.out
           clear HC12
           by_cases c13 : 0 ≤ x6_1
           ·rw [if_pos c13] at H
            have c13b0 := eq_true c13
            have c13b1 : decide (0 ≤ x6_1) = true := decide_eq_true c13
            clear c13
            by_cases c14 : x6_1 ≤ (aa)
            ·rw [if_pos c14] at H
             have c14b0 := eq_true c14
             have c14b1 : decide (x6_1 ≤ (aa)) = true := decide_eq_true c14
             clear c14
             by_cases c15 : (aa) ≤ (l0.length : Int)
             ·rw [if_pos c15] at H
              have c15b0 := eq_true c15
              have c15b1 : decide ((aa) ≤ (l0.length : Int)) = true := decide_eq_true c15
              clear c15
              obtain ⟨ae, hy267⟩ : ∃ y_ : List Int, y_ = (([255] : List Int)) := ⟨_, rfl⟩
              replace H : ((bytes_Count.f ((l0.take ((aa) : Int).toNat).drop (x6_1 : Int).toNat) ae).bind fun t270 => (if t270 < 16 then (wire_Split.j1 k1 l0 x5_1 x6_1 (Go.bits .or .i64 (wrap64 ((wrap64 (rd l0 (aa))) * 256)) (wrap64 (rd l0 (ad)))) true) else (if (Go.bits .or .i64 (wrap64 ((wrap64 (rd l0 (aa))) * 256)) (wrap64 (rd l0 (ad)))) < 19 then (wire_Split.j1 k1 l0 x5_1 x6_1 (Go.bits .or .i64 (wrap64 ((wrap64 (rd l0 (aa))) * 256)) (wrap64 (rd l0 (ad)))) true) else (if (Go.bits .or .i64 (wrap64 ((wrap64 (rd l0 (aa))) * 256)) (wrap64 (rd l0 (ad)))) > 4096 then (wire_Split.j1 k1 l0 x5_1 x6_1 (Go.bits .or .i64 (wrap64 ((wrap64 (rd l0 (aa))) * 256)) (wrap64 (rd l0 (ad)))) true) else (if (rd l0 (ai)) < 1 then (wire_Split.j1 k1 l0 x5_1 x6_1 (Go.bits .or .i64 (wrap64 ((wrap64 (rd l0 (aa))) * 256)) (wrap64 (rd l0 (ad)))) true) else (wire_Split.j1 k1 l0 x5_1 x6_1 (Go.bits .or .i64 (wrap64 ((wrap64 (rd l0 (aa))) * 256)) (wrap64 (rd l0 (ad)))) (decide ((rd l0 (ai)) > 4)))))))) = some (r1, r2, r3) := by first | (rw [hy267]; with_reducible exact H) | (have H2_ := (Option.bind_some _ _).symm.trans H; rw [hy267]; with_reducible exact H2_) | (have H2_ := (Option.bind_some _ _).symm.trans H; with_reducible exact H2_) | with_reducible exact H | (rw [hy267]; exact H) | exact H
              have ac := Aside0.mk hy267
              clear hy267
              replace H := Option.bind_eq_some_iff.mp H
              obtain ⟨t270, A160, H⟩ := H
              (try dsimp only at H)
              have al := Aside0.mk A160
              clear A160
              by_cases c17 : t270 < 16
              ·rw [if_pos c17] at H
               have c17b0 : decide (t270 < 16) = true := decide_eq_true c17
               clear c17
               (first | rw [c17b0] | (simp only [i64_w]; rw [c17b0]) | skip)
               have H' := Aside0.mk H
               clear H
               obtain ⟨i018, hi018, _, hsz18, _⟩ := info_parts info5
               obtain ⟨A18, hcut18, hA18, hC18⟩ := print_mid_of (P := Try.prog) (Value.int .u8) 0 22 5 .i64 .i64 Try.underlying22 hi018 hsz18 (some ad263) c0 l0 x6_1 (aa) (of_decide_eq_true (by first | (with_reducible assumption) | assumption)) (by first | omega | exact of_decide_eq_true (by first | (with_reducible assumption) | assumption)) (of_decide_eq_true (by first | (with_reducible assumption) | assumption)) HC0.out
               have af := Aside0.mk (Kd.C_of_reads (h1 := fun _ => rfl) (hA18 _ (Kd.reads_of_C am.out)))
               have ag := Aside0.mk hC18
               clear hA18 hC18 hi018 hsz18
               go_wp2_with (first | ((with_reducible refine gate_dst (N := 40) rfl ?_); refine Kd.R_lit (Kd.int .u8) _ 5 ?hg (N := 40) ?hd (xs := ([255] : List Int)) (inner := [.int .u8 255]) (ok := fun _ => True) (okp := fun _ => True) ?hr ?hp (fun _ hk => hk) trivial (Below.refl _ _) (Nat.le_refl _) (by simp) ?_; (case hd => rfl); (case hg => rfl); (case hr => first | (go_simp; done) | (go_simp; rfl)); (case hp => exact (Reps.one (show Kd.M (Kd.int .u8) _ _ _ 255 [.int .u8 255] from rfl) (Reps.none _ _))); intro v268 w19 ho20 hb hg_ hnew_; clear hg_ hnew_; (first | rw [← ac.out] at ho20 | (simp only [Int.reduceToNat] at ho20; rw [← ac.out] at ho20)); replace HO_5 := Aside0.mk (Kd.S_elder' (by (with_reducible repeat (first | apply Kd.S_alloc | apply Kd.S_drewN | apply Kd.S_drew)); exact HO_5.out) (Kd.R_base ho20) hb); have ab := Aside0.mk (Kd.R_lower ho20 (below_size (by repeat (first | (with_reducible first | exact HB.out | apply below_alloc | apply pw_below_drewN | apply below_drew1) | exact HB.out)))); replace HB := Aside0.mk (below_step (by repeat (first | (with_reducible first | exact HB.out | apply below_alloc | apply pw_below_drewN | apply below_drew1) | exact HB.out)) hb); clear hb ho20; obtain ⟨Ao21, co21, eo21⟩ := Kd.R_slice ab.out; subst eo21) | (go_at_call 30; refine calls_of_args (args' := #[.slice A18 ((l0.take ((aa) : Int).toNat).drop (x6_1 : Int).toNat).length (c0 - x6_1.toNat), .slice Ao21 ae.length co21]) (by first | rfl | (rw [show ((l0.take ((aa) : Int).toNat).drop (x6_1 : Int).toNat).length = ((aa).toNat - x6_1.toNat) from (by rw [List.length_drop, List.length_take]; have h_ : ((aa) : Int) ≤ (l0.length : Int) := of_decide_eq_true (by first | (with_reducible assumption) | assumption); omega)] <;> rfl) | (rw [show ((l0.take ((aa) : Int).toNat).drop (x6_1 : Int).toNat).length = ((aa).toNat - x6_1.toNat) from (by rw [List.length_drop, List.length_take]; have h_ : ((aa) : Int) ≤ (l0.length : Int) := of_decide_eq_true (by first | (with_reducible assumption) | assumption); omega)])) ?_; (with_reducible refine (bytes_Count.calls _ _ ((l0.take ((aa) : Int).toNat).drop (x6_1 : Int).toNat) _ _ ae t270 _ ?side1 ?side2 ?side3 ?side4 al.out).mono ?_); (case side1 | side3 => repeat (first | exact (Kd.C_below af.out HB.out) | exact (Kd.R_reads' ab.out).2.2 | (with_reducible refine Kd.C_alloc ?_ _) | (with_reducible refine Kd.C_drewN ?_ _) | (with_reducible refine Kd.C_drew ?_))); (case side2 | side4 => first | exact ag.out | exact (Kd.R_reads' ab.out).2.1); rintro e w' ⟨rfl, ⟨nd, rfl⟩⟩; (try first | exact ⟨rfl, _, World.drewN_drewN _ _ _⟩ | exact ⟨rfl, _, Eq.trans (World.drewN_drewN _ _ _) (congrArg (World.drewN _) (Nat.add_assoc _ _ _))⟩)))
               repeat (go_quiet (first | ((with_reducible refine gate_dst (N := 40) rfl ?_); refine Kd.R_lit (Kd.int .u8) _ 5 ?hg (N := 40) ?hd (xs := ([255] : List Int)) (inner := [.int .u8 255]) (ok := fun _ => True) (okp := fun _ => True) ?hr ?hp (fun _ hk => hk) trivial (Below.refl _ _) (Nat.le_refl _) (by simp) ?_; (case hd => rfl); (case hg => rfl); (case hr => first | (go_simp; done) | (go_simp; rfl)); (case hp => exact (Reps.one (show Kd.M (Kd.int .u8) _ _ _ 255 [.int .u8 255] from rfl) (Reps.none _ _))); intro v268 w19 ho20 hb hg_ hnew_; clear hg_ hnew_; (first | rw [← ac.out] at ho20 | (simp only [Int.reduceToNat] at ho20; rw [← ac.out] at ho20)); replace HO_5 := Aside0.mk (Kd.S_elder' (by (with_reducible repeat (first | apply Kd.S_alloc | apply Kd.S_drewN | apply Kd.S_drew)); exact HO_5.out) (Kd.R_base ho20) hb); have ab := Aside0.mk (Kd.R_lower ho20 (below_size (by repeat (first | (with_reducible first | exact HB.out | apply below_alloc | apply pw_below_drewN | apply below_drew1) | exact HB.out)))); replace HB := Aside0.mk (below_step (by repeat (first | (with_reducible first | exact HB.out | apply below_alloc | apply pw_below_drewN | apply below_drew1) | exact HB.out)) hb); clear hb ho20; obtain ⟨Ao21, co21, eo21⟩ := Kd.R_slice ab.out; subst eo21) | (go_at_call 30; refine calls_of_args (args' := #[.slice A18 ((l0.take ((aa) : Int).toNat).drop (x6_1 : Int).toNat).length (c0 - x6_1.toNat), .slice Ao21 ae.length co21]) (by first | rfl | (rw [show ((l0.take ((aa) : Int).toNat).drop (x6_1 : Int).toNat).length = ((aa).toNat - x6_1.toNat) from (by rw [List.length_drop, List.length_take]; have h_ : ((aa) : Int) ≤ (l0.length : Int) := of_decide_eq_true (by first | (with_reducible assumption) | assumption); omega)] <;> rfl) | (rw [show ((l0.take ((aa) : Int).toNat).drop (x6_1 : Int).toNat).length = ((aa).toNat - x6_1.toNat) from (by rw [List.length_drop, List.length_take]; have h_ : ((aa) : Int) ≤ (l0.length : Int) := of_decide_eq_true (by first | (with_reducible assumption) | assumption); omega)])) ?_; (with_reducible refine (bytes_Count.calls _ _ ((l0.take ((aa) : Int).toNat).drop (x6_1 : Int).toNat) _ _ ae t270 _ ?side1 ?side2 ?side3 ?side4 al.out).mono ?_); (case side1 | side3 => repeat (first | exact (Kd.C_below af.out HB.out) | exact (Kd.R_reads' ab.out).2.2 | (with_reducible refine Kd.C_alloc ?_ _) | (with_reducible refine Kd.C_drewN ?_ _) | (with_reducible refine Kd.C_drew ?_))); (case side2 | side4 => first | exact ag.out | exact (Kd.R_reads' ab.out).2.1); rintro e w' ⟨rfl, ⟨nd, rfl⟩⟩; (try first | exact ⟨rfl, _, World.drewN_drewN _ _ _⟩ | exact ⟨rfl, _, Eq.trans (World.drewN_drewN _ _ _) (congrArg (World.drewN _) (Nat.add_assoc _ _ _))⟩))); try go_wp2_with (first | ((with_reducible refine gate_dst (N := 40) rfl ?_); refine Kd.R_lit (Kd.int .u8) _ 5 ?hg (N := 40) ?hd (xs := ([255] : List Int)) (inner := [.int .u8 255]) (ok := fun _ => True) (okp := fun _ => True) ?hr ?hp (fun _ hk => hk) trivial (Below.refl _ _) (Nat.le_refl _) (by simp) ?_; (case hd => rfl); (case hg => rfl); (case hr => first | (go_simp; done) | (go_simp; rfl)); (case hp => exact (Reps.one (show Kd.M (Kd.int .u8) _ _ _ 255 [.int .u8 255] from rfl) (Reps.none _ _))); intro v268 w19 ho20 hb hg_ hnew_; clear hg_ hnew_; (first | rw [← ac.out] at ho20 | (simp only [Int.reduceToNat] at ho20; rw [← ac.out] at ho20)); replace HO_5 := Aside0.mk (Kd.S_elder' (by (with_reducible repeat (first | apply Kd.S_alloc | apply Kd.S_drewN | apply Kd.S_drew)); exact HO_5.out) (Kd.R_base ho20) hb); have ab := Aside0.mk (Kd.R_lower ho20 (below_size (by repeat (first | (with_reducible first | exact HB.out | apply below_alloc | apply pw_below_drewN | apply below_drew1) | exact HB.out)))); replace HB := Aside0.mk (below_step (by repeat (first | (with_reducible first | exact HB.out | apply below_alloc | apply pw_below_drewN | apply below_drew1) | exact HB.out)) hb); clear hb ho20; obtain ⟨Ao21, co21, eo21⟩ := Kd.R_slice ab.out; subst eo21) | (go_at_call 30; refine calls_of_args (args' := #[.slice A18 ((l0.take ((aa) : Int).toNat).drop (x6_1 : Int).toNat).length (c0 - x6_1.toNat), .slice Ao21 ae.length co21]) (by first | rfl | (rw [show ((l0.take ((aa) : Int).toNat).drop (x6_1 : Int).toNat).length = ((aa).toNat - x6_1.toNat) from (by rw [List.length_drop, List.length_take]; have h_ : ((aa) : Int) ≤ (l0.length : Int) := of_decide_eq_true (by first | (with_reducible assumption) | assumption); omega)] <;> rfl) | (rw [show ((l0.take ((aa) : Int).toNat).drop (x6_1 : Int).toNat).length = ((aa).toNat - x6_1.toNat) from (by rw [List.length_drop, List.length_take]; have h_ : ((aa) : Int) ≤ (l0.length : Int) := of_decide_eq_true (by first | (with_reducible assumption) | assumption); omega)])) ?_; (with_reducible refine (bytes_Count.calls _ _ ((l0.take ((aa) : Int).toNat).drop (x6_1 : Int).toNat) _ _ ae t270 _ ?side1 ?side2 ?side3 ?side4 al.out).mono ?_); (case side1 | side3 => repeat (first | exact (Kd.C_below af.out HB.out) | exact (Kd.R_reads' ab.out).2.2 | (with_reducible refine Kd.C_alloc ?_ _) | (with_reducible refine Kd.C_drewN ?_ _) | (with_reducible refine Kd.C_drew ?_))); (case side2 | side4 => first | exact ag.out | exact (Kd.R_reads' ab.out).2.1); rintro e w' ⟨rfl, ⟨nd, rfl⟩⟩; (try first | exact ⟨rfl, _, World.drewN_drewN _ _ _⟩ | exact ⟨rfl, _, Eq.trans (World.drewN_drewN _ _ _) (congrArg (World.drewN _) (Nat.add_assoc _ _ _))⟩))))
               go_meet
               case rel => exact ⟨_, (true), (by first | rfl | (simp; done) | (simp [*]; done)), H', ⟨by have := HK1.out; first | omega | exact Nat.le_refl _⟩, ⟨by (with_reducible repeat (first | apply Kd.S_alloc | apply Kd.S_drewN | apply Kd.S_drew)); exact Kd.S_mono HO_5.out (fun _ hk => trivial)⟩, ⟨by repeat (first | (with_reducible first | exact HB.out | apply below_alloc | apply pw_below_drewN | apply below_drew1) | exact HB.out)⟩⟩
              ·rw [if_neg c17] at H
               have c17b0 : decide (t270 < 16) = false := decide_eq_false c17
               clear c17
               (first | rw [c17b0] | (simp only [i64_w]; rw [c17b0]) | skip)
               by_cases c22 : (Go.bits .or .i64 (wrap64 ((wrap64 (rd l0 (aa))) * 256)) (wrap64 (rd l0 (ad)))) < 19
               ·rw [if_pos c22] at H
                have c22b0 : decide ((Go.bits .or .i64 (wrap64 ((wrap64 (rd l0 (aa))) * 256)) (wrap64 (rd l0 (ad)))) < 19) = true := decide_eq_true c22
                clear c22
                have H' := Aside0.mk H
                clear H
                obtain ⟨i023, hi023, _, hsz23, _⟩ := info_parts info5
                obtain ⟨A23, hcut23, hA23, hC23⟩ := print_mid_of (P := Try.prog) (Value.int .u8) 0 22 5 .i64 .i64 Try.underlying22 hi023 hsz23 (some ad263) c0 l0 x6_1 (aa) (of_decide_eq_true (by first | (with_reducible assumption) | assumption)) (by first | omega | exact of_decide_eq_true (by first | (with_reducible assumption) | assumption)) (of_decide_eq_true (by first | (with_reducible assumption) | assumption)) HC0.out
                have af := Aside0.mk (Kd.C_of_reads (h1 := fun _ => rfl) (hA23 _ (Kd.reads_of_C am.out)))
                have ag := Aside0.mk hC23
                clear hA23 hC23 hi023 hsz23
                go_wp2_with (first | ((with_reducible refine gate_dst (N := 40) rfl ?_); refine Kd.R_lit (Kd.int .u8) _ 5 ?hg (N := 40) ?hd (xs := ([255] : List Int)) (inner := [.int .u8 255]) (ok := fun _ => True) (okp := fun _ => True) ?hr ?hp (fun _ hk => hk) trivial (Below.refl _ _) (Nat.le_refl _) (by simp) ?_; (case hd => rfl); (case hg => rfl); (case hr => first | (go_simp; done) | (go_simp; rfl)); (case hp => exact (Reps.one (show Kd.M (Kd.int .u8) _ _ _ 255 [.int .u8 255] from rfl) (Reps.none _ _))); intro v268 w24 ho25 hb hg_ hnew_; clear hg_ hnew_; (first | rw [← ac.out] at ho25 | (simp only [Int.reduceToNat] at ho25; rw [← ac.out] at ho25)); replace HO_5 := Aside0.mk (Kd.S_elder' (by (with_reducible repeat (first | apply Kd.S_alloc | apply Kd.S_drewN | apply Kd.S_drew)); exact HO_5.out) (Kd.R_base ho25) hb); have ab := Aside0.mk (Kd.R_lower ho25 (below_size (by repeat (first | (with_reducible first | exact HB.out | apply below_alloc | apply pw_below_drewN | apply below_drew1) | exact HB.out)))); replace HB := Aside0.mk (below_step (by repeat (first | (with_reducible first | exact HB.out | apply below_alloc | apply pw_below_drewN | apply below_drew1) | exact HB.out)) hb); clear hb ho25; obtain ⟨Ao26, co26, eo26⟩ := Kd.R_slice ab.out; subst eo26) | (go_at_call 30; refine calls_of_args (args' := #[.slice A23 ((l0.take ((aa) : Int).toNat).drop (x6_1 : Int).toNat).length (c0 - x6_1.toNat), .slice Ao26 ae.length co26]) (by first | rfl | (rw [show ((l0.take ((aa) : Int).toNat).drop (x6_1 : Int).toNat).length = ((aa).toNat - x6_1.toNat) from (by rw [List.length_drop, List.length_take]; have h_ : ((aa) : Int) ≤ (l0.length : Int) := of_decide_eq_true (by first | (with_reducible assumption) | assumption); omega)] <;> rfl) | (rw [show ((l0.take ((aa) : Int).toNat).drop (x6_1 : Int).toNat).length = ((aa).toNat - x6_1.toNat) from (by rw [List.length_drop, List.length_take]; have h_ : ((aa) : Int) ≤ (l0.length : Int) := of_decide_eq_true (by first | (with_reducible assumption) | assumption); omega)])) ?_; (with_reducible refine (bytes_Count.calls _ _ ((l0.take ((aa) : Int).toNat).drop (x6_1 : Int).toNat) _ _ ae t270 _ ?side1 ?side2 ?side3 ?side4 al.out).mono ?_); (case side1 | side3 => repeat (first | exact (Kd.C_below af.out HB.out) | exact (Kd.R_reads' ab.out).2.2 | (with_reducible refine Kd.C_alloc ?_ _) | (with_reducible refine Kd.C_drewN ?_ _) | (with_reducible refine Kd.C_drew ?_))); (case side2 | side4 => first | exact ag.out | exact (Kd.R_reads' ab.out).2.1); rintro e w' ⟨rfl, ⟨nd, rfl⟩⟩; (try first | exact ⟨rfl, _, World.drewN_drewN _ _ _⟩ | exact ⟨rfl, _, Eq.trans (World.drewN_drewN _ _ _) (congrArg (World.drewN _) (Nat.add_assoc _ _ _))⟩)))
                repeat (go_quiet (first | ((with_reducible refine gate_dst (N := 40) rfl ?_); refine Kd.R_lit (Kd.int .u8) _ 5 ?hg (N := 40) ?hd (xs := ([255] : List Int)) (inner := [.int .u8 255]) (ok := fun _ => True) (okp := fun _ => True) ?hr ?hp (fun _ hk => hk) trivial (Below.refl _ _) (Nat.le_refl _) (by simp) ?_; (case hd => rfl); (case hg => rfl); (case hr => first | (go_simp; done) | (go_simp; rfl)); (case hp => exact (Reps.one (show Kd.M (Kd.int .u8) _ _ _ 255 [.int .u8 255] from rfl) (Reps.none _ _))); intro v268 w24 ho25 hb hg_ hnew_; clear hg_ hnew_; (first | rw [← ac.out] at ho25 | (simp only [Int.reduceToNat] at ho25; rw [← ac.out] at ho25)); replace HO_5 := Aside0.mk (Kd.S_elder' (by (with_reducible repeat (first | apply Kd.S_alloc | apply Kd.S_drewN | apply Kd.S_drew)); exact HO_5.out) (Kd.R_base ho25) hb); have ab := Aside0.mk (Kd.R_lower ho25 (below_size (by repeat (first | (with_reducible first | exact HB.out | apply below_alloc | apply pw_below_drewN | apply below_drew1) | exact HB.out)))); replace HB := Aside0.mk (below_step (by repeat (first | (with_reducible first | exact HB.out | apply below_alloc | apply pw_below_drewN | apply below_drew1) | exact HB.out)) hb); clear hb ho25; obtain ⟨Ao26, co26, eo26⟩ := Kd.R_slice ab.out; subst eo26) | (go_at_call 30; refine calls_of_args (args' := #[.slice A23 ((l0.take ((aa) : Int).toNat).drop (x6_1 : Int).toNat).length (c0 - x6_1.toNat), .slice Ao26 ae.length co26]) (by first | rfl | (rw [show ((l0.take ((aa) : Int).toNat).drop (x6_1 : Int).toNat).length = ((aa).toNat - x6_1.toNat) from (by rw [List.length_drop, List.length_take]; have h_ : ((aa) : Int) ≤ (l0.length : Int) := of_decide_eq_true (by first | (with_reducible assumption) | assumption); omega)] <;> rfl) | (rw [show ((l0.take ((aa) : Int).toNat).drop (x6_1 : Int).toNat).length = ((aa).toNat - x6_1.toNat) from (by rw [List.length_drop, List.length_take]; have h_ : ((aa) : Int) ≤ (l0.length : Int) := of_decide_eq_true (by first | (with_reducible assumption) | assumption); omega)])) ?_; (with_reducible refine (bytes_Count.calls _ _ ((l0.take ((aa) : Int).toNat).drop (x6_1 : Int).toNat) _ _ ae t270 _ ?side1 ?side2 ?side3 ?side4 al.out).mono ?_); (case side1 | side3 => repeat (first | exact (Kd.C_below af.out HB.out) | exact (Kd.R_reads' ab.out).2.2 | (with_reducible refine Kd.C_alloc ?_ _) | (with_reducible refine Kd.C_drewN ?_ _) | (with_reducible refine Kd.C_drew ?_))); (case side2 | side4 => first | exact ag.out | exact (Kd.R_reads' ab.out).2.1); rintro e w' ⟨rfl, ⟨nd, rfl⟩⟩; (try first | exact ⟨rfl, _, World.drewN_drewN _ _ _⟩ | exact ⟨rfl, _, Eq.trans (World.drewN_drewN _ _ _) (congrArg (World.drewN _) (Nat.add_assoc _ _ _))⟩))); try go_wp2_with (first | ((with_reducible refine gate_dst (N := 40) rfl ?_); refine Kd.R_lit (Kd.int .u8) _ 5 ?hg (N := 40) ?hd (xs := ([255] : List Int)) (inner := [.int .u8 255]) (ok := fun _ => True) (okp := fun _ => True) ?hr ?hp (fun _ hk => hk) trivial (Below.refl _ _) (Nat.le_refl _) (by simp) ?_; (case hd => rfl); (case hg => rfl); (case hr => first | (go_simp; done) | (go_simp; rfl)); (case hp => exact (Reps.one (show Kd.M (Kd.int .u8) _ _ _ 255 [.int .u8 255] from rfl) (Reps.none _ _))); intro v268 w24 ho25 hb hg_ hnew_; clear hg_ hnew_; (first | rw [← ac.out] at ho25 | (simp only [Int.reduceToNat] at ho25; rw [← ac.out] at ho25)); replace HO_5 := Aside0.mk (Kd.S_elder' (by (with_reducible repeat (first | apply Kd.S_alloc | apply Kd.S_drewN | apply Kd.S_drew)); exact HO_5.out) (Kd.R_base ho25) hb); have ab := Aside0.mk (Kd.R_lower ho25 (below_size (by repeat (first | (with_reducible first | exact HB.out | apply below_alloc | apply pw_below_drewN | apply below_drew1) | exact HB.out)))); replace HB := Aside0.mk (below_step (by repeat (first | (with_reducible first | exact HB.out | apply below_alloc | apply pw_below_drewN | apply below_drew1) | exact HB.out)) hb); clear hb ho25; obtain ⟨Ao26, co26, eo26⟩ := Kd.R_slice ab.out; subst eo26) | (go_at_call 30; refine calls_of_args (args' := #[.slice A23 ((l0.take ((aa) : Int).toNat).drop (x6_1 : Int).toNat).length (c0 - x6_1.toNat), .slice Ao26 ae.length co26]) (by first | rfl | (rw [show ((l0.take ((aa) : Int).toNat).drop (x6_1 : Int).toNat).length = ((aa).toNat - x6_1.toNat) from (by rw [List.length_drop, List.length_take]; have h_ : ((aa) : Int) ≤ (l0.length : Int) := of_decide_eq_true (by first | (with_reducible assumption) | assumption); omega)] <;> rfl) | (rw [show ((l0.take ((aa) : Int).toNat).drop (x6_1 : Int).toNat).length = ((aa).toNat - x6_1.toNat) from (by rw [List.length_drop, List.length_take]; have h_ : ((aa) : Int) ≤ (l0.length : Int) := of_decide_eq_true (by first | (with_reducible assumption) | assumption); omega)])) ?_; (with_reducible refine (bytes_Count.calls _ _ ((l0.take ((aa) : Int).toNat).drop (x6_1 : Int).toNat) _ _ ae t270 _ ?side1 ?side2 ?side3 ?side4 al.out).mono ?_); (case side1 | side3 => repeat (first | exact (Kd.C_below af.out HB.out) | exact (Kd.R_reads' ab.out).2.2 | (with_reducible refine Kd.C_alloc ?_ _) | (with_reducible refine Kd.C_drewN ?_ _) | (with_reducible refine Kd.C_drew ?_))); (case side2 | side4 => first | exact ag.out | exact (Kd.R_reads' ab.out).2.1); rintro e w' ⟨rfl, ⟨nd, rfl⟩⟩; (try first | exact ⟨rfl, _, World.drewN_drewN _ _ _⟩ | exact ⟨rfl, _, Eq.trans (World.drewN_drewN _ _ _) (congrArg (World.drewN _) (Nat.add_assoc _ _ _))⟩))))
                go_meet
                case rel => exact ⟨_, (true), (by first | rfl | (simp; done) | (simp [*]; done)), H', ⟨by have := HK1.out; first | omega | exact Nat.le_refl _⟩, ⟨by (with_reducible repeat (first | apply Kd.S_alloc | apply Kd.S_drewN | apply Kd.S_drew)); exact Kd.S_mono HO_5.out (fun _ hk => trivial)⟩, ⟨by repeat (first | (with_reducible first | exact HB.out | apply below_alloc | apply pw_below_drewN | apply below_drew1) | exact HB.out)⟩⟩
               ·rw [if_neg c22] at H
                have c22b0 : decide ((Go.bits .or .i64 (wrap64 ((wrap64 (rd l0 (aa))) * 256)) (wrap64 (rd l0 (ad)))) < 19) = false := decide_eq_false c22
                clear c22
                by_cases c27 : (Go.bits .or .i64 (wrap64 ((wrap64 (rd l0 (aa))) * 256)) (wrap64 (rd l0 (ad)))) > 4096
                ·rw [if_pos c27] at H
                 have c27b0 : decide (4096 < (Go.bits .or .i64 (wrap64 ((wrap64 (rd l0 (aa))) * 256)) (wrap64 (rd l0 (ad))))) = true := decide_eq_true c27
                 clear c27
                 have H' := Aside0.mk H
                 clear H
                 obtain ⟨i028, hi028, _, hsz28, _⟩ := info_parts info5
                 obtain ⟨A28, hcut28, hA28, hC28⟩ := print_mid_of (P := Try.prog) (Value.int .u8) 0 22 5 .i64 .i64 Try.underlying22 hi028 hsz28 (some ad263) c0 l0 x6_1 (aa) (of_decide_eq_true (by first | (with_reducible assumption) | assumption)) (by first | omega | exact of_decide_eq_true (by first | (with_reducible assumption) | assumption)) (of_decide_eq_true (by first | (with_reducible assumption) | assumption)) HC0.out
                 have af := Aside0.mk (Kd.C_of_reads (h1 := fun _ => rfl) (hA28 _ (Kd.reads_of_C am.out)))
                 have ag := Aside0.mk hC28
                 clear hA28 hC28 hi028 hsz28
                 go_wp2_with (first | ((with_reducible refine gate_dst (N := 40) rfl ?_); refine Kd.R_lit (Kd.int .u8) _ 5 ?hg (N := 40) ?hd (xs := ([255] : List Int)) (inner := [.int .u8 255]) (ok := fun _ => True) (okp := fun _ => True) ?hr ?hp (fun _ hk => hk) trivial (Below.refl _ _) (Nat.le_refl _) (by simp) ?_; (case hd => rfl); (case hg => rfl); (case hr => first | (go_simp; done) | (go_simp; rfl)); (case hp => exact (Reps.one (show Kd.M (Kd.int .u8) _ _ _ 255 [.int .u8 255] from rfl) (Reps.none _ _))); intro v268 w29 ho30 hb hg_ hnew_; clear hg_ hnew_; (first | rw [← ac.out] at ho30 | (simp only [Int.reduceToNat] at ho30; rw [← ac.out] at ho30)); replace HO_5 := Aside0.mk (Kd.S_elder' (by (with_reducible repeat (first | apply Kd.S_alloc | apply Kd.S_drewN | apply Kd.S_drew)); exact HO_5.out) (Kd.R_base ho30) hb); have ab := Aside0.mk (Kd.R_lower ho30 (below_size (by repeat (first | (with_reducible first | exact HB.out | apply below_alloc | apply pw_below_drewN | apply below_drew1) | exact HB.out)))); replace HB := Aside0.mk (below_step (by repeat (first | (with_reducible first | exact HB.out | apply below_alloc | apply pw_below_drewN | apply below_drew1) | exact HB.out)) hb); clear hb ho30; obtain ⟨Ao31, co31, eo31⟩ := Kd.R_slice ab.out; subst eo31) | (go_at_call 30; refine calls_of_args (args' := #[.slice A28 ((l0.take ((aa) : Int).toNat).drop (x6_1 : Int).toNat).length (c0 - x6_1.toNat), .slice Ao31 ae.length co31]) (by first | rfl | (rw [show ((l0.take ((aa) : Int).toNat).drop (x6_1 : Int).toNat).length = ((aa).toNat - x6_1.toNat) from (by rw [List.length_drop, List.length_take]; have h_ : ((aa) : Int) ≤ (l0.length : Int) := of_decide_eq_true (by first | (with_reducible assumption) | assumption); omega)] <;> rfl) | (rw [show ((l0.take ((aa) : Int).toNat).drop (x6_1 : Int).toNat).length = ((aa).toNat - x6_1.toNat) from (by rw [List.length_drop, List.length_take]; have h_ : ((aa) : Int) ≤ (l0.length : Int) := of_decide_eq_true (by first | (with_reducible assumption) | assumption); omega)])) ?_; (with_reducible refine (bytes_Count.calls _ _ ((l0.take ((aa) : Int).toNat).drop (x6_1 : Int).toNat) _ _ ae t270 _ ?side1 ?side2 ?side3 ?side4 al.out).mono ?_); (case side1 | side3 => repeat (first | exact (Kd.C_below af.out HB.out) | exact (Kd.R_reads' ab.out).2.2 | (with_reducible refine Kd.C_alloc ?_ _) | (with_reducible refine Kd.C_drewN ?_ _) | (with_reducible refine Kd.C_drew ?_))); (case side2 | side4 => first | exact ag.out | exact (Kd.R_reads' ab.out).2.1); rintro e w' ⟨rfl, ⟨nd, rfl⟩⟩; (try first | exact ⟨rfl, _, World.drewN_drewN _ _ _⟩ | exact ⟨rfl, _, Eq.trans (World.drewN_drewN _ _ _) (congrArg (World.drewN _) (Nat.add_assoc _ _ _))⟩)))
                 repeat (go_quiet (first | ((with_reducible refine gate_dst (N := 40) rfl ?_); refine Kd.R_lit (Kd.int .u8) _ 5 ?hg (N := 40) ?hd (xs := ([255] : List Int)) (inner := [.int .u8 255]) (ok := fun _ => True) (okp := fun _ => True) ?hr ?hp (fun _ hk => hk) trivial (Below.refl _ _) (Nat.le_refl _) (by simp) ?_; (case hd => rfl); (case hg => rfl); (case hr => first | (go_simp; done) | (go_simp; rfl)); (case hp => exact (Reps.one (show Kd.M (Kd.int .u8) _ _ _ 255 [.int .u8 255] from rfl) (Reps.none _ _))); intro v268 w29 ho30 hb hg_ hnew_; clear hg_ hnew_; (first | rw [← ac.out] at ho30 | (simp only [Int.reduceToNat] at ho30; rw [← ac.out] at ho30)); replace HO_5 := Aside0.mk (Kd.S_elder' (by (with_reducible repeat (first | apply Kd.S_alloc | apply Kd.S_drewN | apply Kd.S_drew)); exact HO_5.out) (Kd.R_base ho30) hb); have ab := Aside0.mk (Kd.R_lower ho30 (below_size (by repeat (first | (with_reducible first | exact HB.out | apply below_alloc | apply pw_below_drewN | apply below_drew1) | exact HB.out)))); replace HB := Aside0.mk (below_step (by repeat (first | (with_reducible first | exact HB.out | apply below_alloc | apply pw_below_drewN | apply below_drew1) | exact HB.out)) hb); clear hb ho30; obtain ⟨Ao31, co31, eo31⟩ := Kd.R_slice ab.out; subst eo31) | (go_at_call 30; refine calls_of_args (args' := #[.slice A28 ((l0.take ((aa) : Int).toNat).drop (x6_1 : Int).toNat).length (c0 - x6_1.toNat), .slice Ao31 ae.length co31]) (by first | rfl | (rw [show ((l0.take ((aa) : Int).toNat).drop (x6_1 : Int).toNat).length = ((aa).toNat - x6_1.toNat) from (by rw [List.length_drop, List.length_take]; have h_ : ((aa) : Int) ≤ (l0.length : Int) := of_decide_eq_true (by first | (with_reducible assumption) | assumption); omega)] <;> rfl) | (rw [show ((l0.take ((aa) : Int).toNat).drop (x6_1 : Int).toNat).length = ((aa).toNat - x6_1.toNat) from (by rw [List.length_drop, List.length_take]; have h_ : ((aa) : Int) ≤ (l0.length : Int) := of_decide_eq_true (by first | (with_reducible assumption) | assumption); omega)])) ?_; (with_reducible refine (bytes_Count.calls _ _ ((l0.take ((aa) : Int).toNat).drop (x6_1 : Int).toNat) _ _ ae t270 _ ?side1 ?side2 ?side3 ?side4 al.out).mono ?_); (case side1 | side3 => repeat (first | exact (Kd.C_below af.out HB.out) | exact (Kd.R_reads' ab.out).2.2 | (with_reducible refine Kd.C_alloc ?_ _) | (with_reducible refine Kd.C_drewN ?_ _) | (with_reducible refine Kd.C_drew ?_))); (case side2 | side4 => first | exact ag.out | exact (Kd.R_reads' ab.out).2.1); rintro e w' ⟨rfl, ⟨nd, rfl⟩⟩; (try first | exact ⟨rfl, _, World.drewN_drewN _ _ _⟩ | exact ⟨rfl, _, Eq.trans (World.drewN_drewN _ _ _) (congrArg (World.drewN _) (Nat.add_assoc _ _ _))⟩))); try go_wp2_with (first | ((with_reducible refine gate_dst (N := 40) rfl ?_); refine Kd.R_lit (Kd.int .u8) _ 5 ?hg (N := 40) ?hd (xs := ([255] : List Int)) (inner := [.int .u8 255]) (ok := fun _ => True) (okp := fun _ => True) ?hr ?hp (fun _ hk => hk) trivial (Below.refl _ _) (Nat.le_refl _) (by simp) ?_; (case hd => rfl); (case hg => rfl); (case hr => first | (go_simp; done) | (go_simp; rfl)); (case hp => exact (Reps.one (show Kd.M (Kd.int .u8) _ _ _ 255 [.int .u8 255] from rfl) (Reps.none _ _))); intro v268 w29 ho30 hb hg_ hnew_; clear hg_ hnew_; (first | rw [← ac.out] at ho30 | (simp only [Int.reduceToNat] at ho30; rw [← ac.out] at ho30)); replace HO_5 := Aside0.mk (Kd.S_elder' (by (with_reducible repeat (first | apply Kd.S_alloc | apply Kd.S_drewN | apply Kd.S_drew)); exact HO_5.out) (Kd.R_base ho30) hb); have ab := Aside0.mk (Kd.R_lower ho30 (below_size (by repeat (first | (with_reducible first | exact HB.out | apply below_alloc | apply pw_below_drewN | apply below_drew1) | exact HB.out)))); replace HB := Aside0.mk (below_step (by repeat (first | (with_reducible first | exact HB.out | apply below_alloc | apply pw_below_drewN | apply below_drew1) | exact HB.out)) hb); clear hb ho30; obtain ⟨Ao31, co31, eo31⟩ := Kd.R_slice ab.out; subst eo31) | (go_at_call 30; refine calls_of_args (args' := #[.slice A28 ((l0.take ((aa) : Int).toNat).drop (x6_1 : Int).toNat).length (c0 - x6_1.toNat), .slice Ao31 ae.length co31]) (by first | rfl | (rw [show ((l0.take ((aa) : Int).toNat).drop (x6_1 : Int).toNat).length = ((aa).toNat - x6_1.toNat) from (by rw [List.length_drop, List.length_take]; have h_ : ((aa) : Int) ≤ (l0.length : Int) := of_decide_eq_true (by first | (with_reducible assumption) | assumption); omega)] <;> rfl) | (rw [show ((l0.take ((aa) : Int).toNat).drop (x6_1 : Int).toNat).length = ((aa).toNat - x6_1.toNat) from (by rw [List.length_drop, List.length_take]; have h_ : ((aa) : Int) ≤ (l0.length : Int) := of_decide_eq_true (by first | (with_reducible assumption) | assumption); omega)])) ?_; (with_reducible refine (bytes_Count.calls _ _ ((l0.take ((aa) : Int).toNat).drop (x6_1 : Int).toNat) _ _ ae t270 _ ?side1 ?side2 ?side3 ?side4 al.out).mono ?_); (case side1 | side3 => repeat (first | exact (Kd.C_below af.out HB.out) | exact (Kd.R_reads' ab.out).2.2 | (with_reducible refine Kd.C_alloc ?_ _) | (with_reducible refine Kd.C_drewN ?_ _) | (with_reducible refine Kd.C_drew ?_))); (case side2 | side4 => first | exact ag.out | exact (Kd.R_reads' ab.out).2.1); rintro e w' ⟨rfl, ⟨nd, rfl⟩⟩; (try first | exact ⟨rfl, _, World.drewN_drewN _ _ _⟩ | exact ⟨rfl, _, Eq.trans (World.drewN_drewN _ _ _) (congrArg (World.drewN _) (Nat.add_assoc _ _ _))⟩))))
                 go_meet
                 case rel => exact ⟨_, (true), (by first | rfl | (simp; done) | (simp [*]; done)), H', ⟨by have := HK1.out; first | omega | exact Nat.le_refl _⟩, ⟨by (with_reducible repeat (first | apply Kd.S_alloc | apply Kd.S_drewN | apply Kd.S_drew)); exact Kd.S_mono HO_5.out (fun _ hk => trivial)⟩, ⟨by repeat (first | (with_reducible first | exact HB.out | apply below_alloc | apply pw_below_drewN | apply below_drew1) | exact HB.out)⟩⟩
                ·rw [if_neg c27] at H
                 have c27b0 : decide (4096 < (Go.bits .or .i64 (wrap64 ((wrap64 (rd l0 (aa))) * 256)) (wrap64 (rd l0 (ad))))) = false := decide_eq_false c27
                 clear c27
                 by_cases c32 : (rd l0 (ai)) < 1
                 ·rw [if_pos c32] at H
                  have c32b0 : decide ((rd l0 (ai)) < 1) = true := decide_eq_true c32
                  clear c32
                  have H' := Aside0.mk H
                  clear H
                  obtain ⟨i033, hi033, _, hsz33, _⟩ := info_parts info5
                  obtain ⟨A33, hcut33, hA33, hC33⟩ := print_mid_of (P := Try.prog) (Value.int .u8) 0 22 5 .i64 .i64 Try.underlying22 hi033 hsz33 (some ad263) c0 l0 x6_1 (aa) (of_decide_eq_true (by first | (with_reducible assumption) | assumption)) (by first | omega | exact of_decide_eq_true (by first | (with_reducible assumption) | assumption)) (of_decide_eq_true (by first | (with_reducible assumption) | assumption)) HC0.out
                  have af := Aside0.mk (Kd.C_of_reads (h1 := fun _ => rfl) (hA33 _ (Kd.reads_of_C am.out)))
                  have ag := Aside0.mk hC33
                  clear hA33 hC33 hi033 hsz33
                  go_wp2_with (first | ((with_reducible refine gate_dst (N := 40) rfl ?_); refine Kd.R_lit (Kd.int .u8) _ 5 ?hg (N := 40) ?hd (xs := ([255] : List Int)) (inner := [.int .u8 255]) (ok := fun _ => True) (okp := fun _ => True) ?hr ?hp (fun _ hk => hk) trivial (Below.refl _ _) (Nat.le_refl _) (by simp) ?_; (case hd => rfl); (case hg => rfl); (case hr => first | (go_simp; done) | (go_simp; rfl)); (case hp => exact (Reps.one (show Kd.M (Kd.int .u8) _ _ _ 255 [.int .u8 255] from rfl) (Reps.none _ _))); intro v268 w34 ho35 hb hg_ hnew_; clear hg_ hnew_; (first | rw [← ac.out] at ho35 | (simp only [Int.reduceToNat] at ho35; rw [← ac.out] at ho35)); replace HO_5 := Aside0.mk (Kd.S_elder' (by (with_reducible repeat (first | apply Kd.S_alloc | apply Kd.S_drewN | apply Kd.S_drew)); exact HO_5.out) (Kd.R_base ho35) hb); have ab := Aside0.mk (Kd.R_lower ho35 (below_size (by repeat (first | (with_reducible first | exact HB.out | apply below_alloc | apply pw_below_drewN | apply below_drew1) | exact HB.out)))); replace HB := Aside0.mk (below_step (by repeat (first | (with_reducible first | exact HB.out | apply below_alloc | apply pw_below_drewN | apply below_drew1) | exact HB.out)) hb); clear hb ho35; obtain ⟨Ao36, co36, eo36⟩ := Kd.R_slice ab.out; subst eo36) | (go_at_call 30; refine calls_of_args (args' := #[.slice A33 ((l0.take ((aa) : Int).toNat).drop (x6_1 : Int).toNat).length (c0 - x6_1.toNat), .slice Ao36 ae.length co36]) (by first | rfl | (rw [show ((l0.take ((aa) : Int).toNat).drop (x6_1 : Int).toNat).length = ((aa).toNat - x6_1.toNat) from (by rw [List.length_drop, List.length_take]; have h_ : ((aa) : Int) ≤ (l0.length : Int) := of_decide_eq_true (by first | (with_reducible assumption) | assumption); omega)] <;> rfl) | (rw [show ((l0.take ((aa) : Int).toNat).drop (x6_1 : Int).toNat).length = ((aa).toNat - x6_1.toNat) from (by rw [List.length_drop, List.length_take]; have h_ : ((aa) : Int) ≤ (l0.length : Int) := of_decide_eq_true (by first | (with_reducible assumption) | assumption); omega)])) ?_; (with_reducible refine (bytes_Count.calls _ _ ((l0.take ((aa) : Int).toNat).drop (x6_1 : Int).toNat) _ _ ae t270 _ ?side1 ?side2 ?side3 ?side4 al.out).mono ?_); (case side1 | side3 => repeat (first | exact (Kd.C_below af.out HB.out) | exact (Kd.R_reads' ab.out).2.2 | (with_reducible refine Kd.C_alloc ?_ _) | (with_reducible refine Kd.C_drewN ?_ _) | (with_reducible refine Kd.C_drew ?_))); (case side2 | side4 => first | exact ag.out | exact (Kd.R_reads' ab.out).2.1); rintro e w' ⟨rfl, ⟨nd, rfl⟩⟩; (try first | exact ⟨rfl, _, World.drewN_drewN _ _ _⟩ | exact ⟨rfl, _, Eq.trans (World.drewN_drewN _ _ _) (congrArg (World.drewN _) (Nat.add_assoc _ _ _))⟩)))
                  repeat (go_quiet (first | ((with_reducible refine gate_dst (N := 40) rfl ?_); refine Kd.R_lit (Kd.int .u8) _ 5 ?hg (N := 40) ?hd (xs := ([255] : List Int)) (inner := [.int .u8 255]) (ok := fun _ => True) (okp := fun _ => True) ?hr ?hp (fun _ hk => hk) trivial (Below.refl _ _) (Nat.le_refl _) (by simp) ?_; (case hd => rfl); (case hg => rfl); (case hr => first | (go_simp; done) | (go_simp; rfl)); (case hp => exact (Reps.one (show Kd.M (Kd.int .u8) _ _ _ 255 [.int .u8 255] from rfl) (Reps.none _ _))); intro v268 w34 ho35 hb hg_ hnew_; clear hg_ hnew_; (first | rw [← ac.out] at ho35 | (simp only [Int.reduceToNat] at ho35; rw [← ac.out] at ho35)); replace HO_5 := Aside0.mk (Kd.S_elder' (by (with_reducible repeat (first | apply Kd.S_alloc | apply Kd.S_drewN | apply Kd.S_drew)); exact HO_5.out) (Kd.R_base ho35) hb); have ab := Aside0.mk (Kd.R_lower ho35 (below_size (by repeat (first | (with_reducible first | exact HB.out | apply below_alloc | apply pw_below_drewN | apply below_drew1) | exact HB.out)))); replace HB := Aside0.mk (below_step (by repeat (first | (with_reducible first | exact HB.out | apply below_alloc | apply pw_below_drewN | apply below_drew1) | exact HB.out)) hb); clear hb ho35; obtain ⟨Ao36, co36, eo36⟩ := Kd.R_slice ab.out; subst eo36) | (go_at_call 30; refine calls_of_args (args' := #[.slice A33 ((l0.take ((aa) : Int).toNat).drop (x6_1 : Int).toNat).length (c0 - x6_1.toNat), .slice Ao36 ae.length co36]) (by first | rfl | (rw [show ((l0.take ((aa) : Int).toNat).drop (x6_1 : Int).toNat).length = ((aa).toNat - x6_1.toNat) from (by rw [List.length_drop, List.length_take]; have h_ : ((aa) : Int) ≤ (l0.length : Int) := of_decide_eq_true (by first | (with_reducible assumption) | assumption); omega)] <;> rfl) | (rw [show ((l0.take ((aa) : Int).toNat).drop (x6_1 : Int).toNat).length = ((aa).toNat - x6_1.toNat) from (by rw [List.length_drop, List.length_take]; have h_ : ((aa) : Int) ≤ (l0.length : Int) := of_decide_eq_true (by first | (with_reducible assumption) | assumption); omega)])) ?_; (with_reducible refine (bytes_Count.calls _ _ ((l0.take ((aa) : Int).toNat).drop (x6_1 : Int).toNat) _ _ ae t270 _ ?side1 ?side2 ?side3 ?side4 al.out).mono ?_); (case side1 | side3 => repeat (first | exact (Kd.C_below af.out HB.out) | exact (Kd.R_reads' ab.out).2.2 | (with_reducible refine Kd.C_alloc ?_ _) | (with_reducible refine Kd.C_drewN ?_ _) | (with_reducible refine Kd.C_drew ?_))); (case side2 | side4 => first | exact ag.out | exact (Kd.R_reads' ab.out).2.1); rintro e w' ⟨rfl, ⟨nd, rfl⟩⟩; (try first | exact ⟨rfl, _, World.drewN_drewN _ _ _⟩ | exact ⟨rfl, _, Eq.trans (World.drewN_drewN _ _ _) (congrArg (World.drewN _) (Nat.add_assoc _ _ _))⟩))); try go_wp2_with (first | ((with_reducible refine gate_dst (N := 40) rfl ?_); refine Kd.R_lit (Kd.int .u8) _ 5 ?hg (N := 40) ?hd (xs := ([255] : List Int)) (inner := [.int .u8 255]) (ok := fun _ => True) (okp := fun _ => True) ?hr ?hp (fun _ hk => hk) trivial (Below.refl _ _) (Nat.le_refl _) (by simp) ?_; (case hd => rfl); (case hg => rfl); (case hr => first | (go_simp; done) | (go_simp; rfl)); (case hp => exact (Reps.one (show Kd.M (Kd.int .u8) _ _ _ 255 [.int .u8 255] from rfl) (Reps.none _ _))); intro v268 w34 ho35 hb hg_ hnew_; clear hg_ hnew_; (first | rw [← ac.out] at ho35 | (simp only [Int.reduceToNat] at ho35; rw [← ac.out] at ho35)); replace HO_5 := Aside0.mk (Kd.S_elder' (by (with_reducible repeat (first | apply Kd.S_alloc | apply Kd.S_drewN | apply Kd.S_drew)); exact HO_5.out) (Kd.R_base ho35) hb); have ab := Aside0.mk (Kd.R_lower ho35 (below_size (by repeat (first | (with_reducible first | exact HB.out | apply below_alloc | apply pw_below_drewN | apply below_drew1) | exact HB.out)))); replace HB := Aside0.mk (below_step (by repeat (first | (with_reducible first | exact HB.out | apply below_alloc | apply pw_below_drewN | apply below_drew1) | exact HB.out)) hb); clear hb ho35; obtain ⟨Ao36, co36, eo36⟩ := Kd.R_slice ab.out; subst eo36) | (go_at_call 30; refine calls_of_args (args' := #[.slice A33 ((l0.take ((aa) : Int).toNat).drop (x6_1 : Int).toNat).length (c0 - x6_1.toNat), .slice Ao36 ae.length co36]) (by first | rfl | (rw [show ((l0.take ((aa) : Int).toNat).drop (x6_1 : Int).toNat).length = ((aa).toNat - x6_1.toNat) from (by rw [List.length_drop, List.length_take]; have h_ : ((aa) : Int) ≤ (l0.length : Int) := of_decide_eq_true (by first | (with_reducible assumption) | assumption); omega)] <;> rfl) | (rw [show ((l0.take ((aa) : Int).toNat).drop (x6_1 : Int).toNat).length = ((aa).toNat - x6_1.toNat) from (by rw [List.length_drop, List.length_take]; have h_ : ((aa) : Int) ≤ (l0.length : Int) := of_decide_eq_true (by first | (with_reducible assumption) | assumption); omega)])) ?_; (with_reducible refine (bytes_Count.calls _ _ ((l0.take ((aa) : Int).toNat).drop (x6_1 : Int).toNat) _ _ ae t270 _ ?side1 ?side2 ?side3 ?side4 al.out).mono ?_); (case side1 | side3 => repeat (first | exact (Kd.C_below af.out HB.out) | exact (Kd.R_reads' ab.out).2.2 | (with_reducible refine Kd.C_alloc ?_ _) | (with_reducible refine Kd.C_drewN ?_ _) | (with_reducible refine Kd.C_drew ?_))); (case side2 | side4 => first | exact ag.out | exact (Kd.R_reads' ab.out).2.1); rintro e w' ⟨rfl, ⟨nd, rfl⟩⟩; (try first | exact ⟨rfl, _, World.drewN_drewN _ _ _⟩ | exact ⟨rfl, _, Eq.trans (World.drewN_drewN _ _ _) (congrArg (World.drewN _) (Nat.add_assoc _ _ _))⟩))))
                  go_meet
                  case rel => exact ⟨_, (true), (by first | rfl | (simp; done) | (simp [*]; done)), H', ⟨by have := HK1.out; first | omega | exact Nat.le_refl _⟩, ⟨by (with_reducible repeat (first | apply Kd.S_alloc | apply Kd.S_drewN | apply Kd.S_drew)); exact Kd.S_mono HO_5.out (fun _ hk => trivial)⟩, ⟨by repeat (first | (with_reducible first | exact HB.out | apply below_alloc | apply pw_below_drewN | apply below_drew1) | exact HB.out)⟩⟩
                 ·rw [if_neg c32] at H
                  have c32b0 : decide ((rd l0 (ai)) < 1) = false := decide_eq_false c32
                  clear c32
                  have H' := Aside0.mk H
                  clear H
                  obtain ⟨i037, hi037, _, hsz37, _⟩ := info_parts info5
                  obtain ⟨A37, hcut37, hA37, hC37⟩ := print_mid_of (P := Try.prog) (Value.int .u8) 0 22 5 .i64 .i64 Try.underlying22 hi037 hsz37 (some ad263) c0 l0 x6_1 (aa) (of_decide_eq_true (by first | (with_reducible assumption) | assumption)) (by first | omega | exact of_decide_eq_true (by first | (with_reducible assumption) | assumption)) (of_decide_eq_true (by first | (with_reducible assumption) | assumption)) HC0.out
                  have af := Aside0.mk (Kd.C_of_reads (h1 := fun _ => rfl) (hA37 _ (Kd.reads_of_C am.out)))
                  have ag := Aside0.mk hC37
                  clear hA37 hC37 hi037 hsz37
                  go_wp2_with (first | ((with_reducible refine gate_dst (N := 40) rfl ?_); refine Kd.R_lit (Kd.int .u8) _ 5 ?hg (N := 40) ?hd (xs := ([255] : List Int)) (inner := [.int .u8 255]) (ok := fun _ => True) (okp := fun _ => True) ?hr ?hp (fun _ hk => hk) trivial (Below.refl _ _) (Nat.le_refl _) (by simp) ?_; (case hd => rfl); (case hg => rfl); (case hr => first | (go_simp; done) | (go_simp; rfl)); (case hp => exact (Reps.one (show Kd.M (Kd.int .u8) _ _ _ 255 [.int .u8 255] from rfl) (Reps.none _ _))); intro v268 w38 ho39 hb hg_ hnew_; clear hg_ hnew_; (first | rw [← ac.out] at ho39 | (simp only [Int.reduceToNat] at ho39; rw [← ac.out] at ho39)); replace HO_5 := Aside0.mk (Kd.S_elder' (by (with_reducible repeat (first | apply Kd.S_alloc | apply Kd.S_drewN | apply Kd.S_drew)); exact HO_5.out) (Kd.R_base ho39) hb); have ab := Aside0.mk (Kd.R_lower ho39 (below_size (by repeat (first | (with_reducible first | exact HB.out | apply below_alloc | apply pw_below_drewN | apply below_drew1) | exact HB.out)))); replace HB := Aside0.mk (below_step (by repeat (first | (with_reducible first | exact HB.out | apply below_alloc | apply pw_below_drewN | apply below_drew1) | exact HB.out)) hb); clear hb ho39; obtain ⟨Ao40, co40, eo40⟩ := Kd.R_slice ab.out; subst eo40) | (go_at_call 30; refine calls_of_args (args' := #[.slice A37 ((l0.take ((aa) : Int).toNat).drop (x6_1 : Int).toNat).length (c0 - x6_1.toNat), .slice Ao40 ae.length co40]) (by first | rfl | (rw [show ((l0.take ((aa) : Int).toNat).drop (x6_1 : Int).toNat).length = ((aa).toNat - x6_1.toNat) from (by rw [List.length_drop, List.length_take]; have h_ : ((aa) : Int) ≤ (l0.length : Int) := of_decide_eq_true (by first | (with_reducible assumption) | assumption); omega)] <;> rfl) | (rw [show ((l0.take ((aa) : Int).toNat).drop (x6_1 : Int).toNat).length = ((aa).toNat - x6_1.toNat) from (by rw [List.length_drop, List.length_take]; have h_ : ((aa) : Int) ≤ (l0.length : Int) := of_decide_eq_true (by first | (with_reducible assumption) | assumption); omega)])) ?_; (with_reducible refine (bytes_Count.calls _ _ ((l0.take ((aa) : Int).toNat).drop (x6_1 : Int).toNat) _ _ ae t270 _ ?side1 ?side2 ?side3 ?side4 al.out).mono ?_); (case side1 | side3 => repeat (first | exact (Kd.C_below af.out HB.out) | exact (Kd.R_reads' ab.out).2.2 | (with_reducible refine Kd.C_alloc ?_ _) | (with_reducible refine Kd.C_drewN ?_ _) | (with_reducible refine Kd.C_drew ?_))); (case side2 | side4 => first | exact ag.out | exact (Kd.R_reads' ab.out).2.1); rintro e w' ⟨rfl, ⟨nd, rfl⟩⟩; (try first | exact ⟨rfl, _, World.drewN_drewN _ _ _⟩ | exact ⟨rfl, _, Eq.trans (World.drewN_drewN _ _ _) (congrArg (World.drewN _) (Nat.add_assoc _ _ _))⟩)))
                  repeat (go_quiet (first | ((with_reducible refine gate_dst (N := 40) rfl ?_); refine Kd.R_lit (Kd.int .u8) _ 5 ?hg (N := 40) ?hd (xs := ([255] : List Int)) (inner := [.int .u8 255]) (ok := fun _ => True) (okp := fun _ => True) ?hr ?hp (fun _ hk => hk) trivial (Below.refl _ _) (Nat.le_refl _) (by simp) ?_; (case hd => rfl); (case hg => rfl); (case hr => first | (go_simp; done) | (go_simp; rfl)); (case hp => exact (Reps.one (show Kd.M (Kd.int .u8) _ _ _ 255 [.int .u8 255] from rfl) (Reps.none _ _))); intro v268 w38 ho39 hb hg_ hnew_; clear hg_ hnew_; (first | rw [← ac.out] at ho39 | (simp only [Int.reduceToNat] at ho39; rw [← ac.out] at ho39)); replace HO_5 := Aside0.mk (Kd.S_elder' (by (with_reducible repeat (first | apply Kd.S_alloc | apply Kd.S_drewN | apply Kd.S_drew)); exact HO_5.out) (Kd.R_base ho39) hb); have ab := Aside0.mk (Kd.R_lower ho39 (below_size (by repeat (first | (with_reducible first | exact HB.out | apply below_alloc | apply pw_below_drewN | apply below_drew1) | exact HB.out)))); replace HB := Aside0.mk (below_step (by repeat (first | (with_reducible first | exact HB.out | apply below_alloc | apply pw_below_drewN | apply below_drew1) | exact HB.out)) hb); clear hb ho39; obtain ⟨Ao40, co40, eo40⟩ := Kd.R_slice ab.out; subst eo40) | (go_at_call 30; refine calls_of_args (args' := #[.slice A37 ((l0.take ((aa) : Int).toNat).drop (x6_1 : Int).toNat).length (c0 - x6_1.toNat), .slice Ao40 ae.length co40]) (by first | rfl | (rw [show ((l0.take ((aa) : Int).toNat).drop (x6_1 : Int).toNat).length = ((aa).toNat - x6_1.toNat) from (by rw [List.length_drop, List.length_take]; have h_ : ((aa) : Int) ≤ (l0.length : Int) := of_decide_eq_true (by first | (with_reducible assumption) | assumption); omega)] <;> rfl) | (rw [show ((l0.take ((aa) : Int).toNat).drop (x6_1 : Int).toNat).length = ((aa).toNat - x6_1.toNat) from (by rw [List.length_drop, List.length_take]; have h_ : ((aa) : Int) ≤ (l0.length : Int) := of_decide_eq_true (by first | (with_reducible assumption) | assumption); omega)])) ?_; (with_reducible refine (bytes_Count.calls _ _ ((l0.take ((aa) : Int).toNat).drop (x6_1 : Int).toNat) _ _ ae t270 _ ?side1 ?side2 ?side3 ?side4 al.out).mono ?_); (case side1 | side3 => repeat (first | exact (Kd.C_below af.out HB.out) | exact (Kd.R_reads' ab.out).2.2 | (with_reducible refine Kd.C_alloc ?_ _) | (with_reducible refine Kd.C_drewN ?_ _) | (with_reducible refine Kd.C_drew ?_))); (case side2 | side4 => first | exact ag.out | exact (Kd.R_reads' ab.out).2.1); rintro e w' ⟨rfl, ⟨nd, rfl⟩⟩; (try first | exact ⟨rfl, _, World.drewN_drewN _ _ _⟩ | exact ⟨rfl, _, Eq.trans (World.drewN_drewN _ _ _) (congrArg (World.drewN _) (Nat.add_assoc _ _ _))⟩))); try go_wp2_with (first | ((with_reducible refine gate_dst (N := 40) rfl ?_); refine Kd.R_lit (Kd.int .u8) _ 5 ?hg (N := 40) ?hd (xs := ([255] : List Int)) (inner := [.int .u8 255]) (ok := fun _ => True) (okp := fun _ => True) ?hr ?hp (fun _ hk => hk) trivial (Below.refl _ _) (Nat.le_refl _) (by simp) ?_; (case hd => rfl); (case hg => rfl); (case hr => first | (go_simp; done) | (go_simp; rfl)); (case hp => exact (Reps.one (show Kd.M (Kd.int .u8) _ _ _ 255 [.int .u8 255] from rfl) (Reps.none _ _))); intro v268 w38 ho39 hb hg_ hnew_; clear hg_ hnew_; (first | rw [← ac.out] at ho39 | (simp only [Int.reduceToNat] at ho39; rw [← ac.out] at ho39)); replace HO_5 := Aside0.mk (Kd.S_elder' (by (with_reducible repeat (first | apply Kd.S_alloc | apply Kd.S_drewN | apply Kd.S_drew)); exact HO_5.out) (Kd.R_base ho39) hb); have ab := Aside0.mk (Kd.R_lower ho39 (below_size (by repeat (first | (with_reducible first | exact HB.out | apply below_alloc | apply pw_below_drewN | apply below_drew1) | exact HB.out)))); replace HB := Aside0.mk (below_step (by repeat (first | (with_reducible first | exact HB.out | apply below_alloc | apply pw_below_drewN | apply below_drew1) | exact HB.out)) hb); clear hb ho39; obtain ⟨Ao40, co40, eo40⟩ := Kd.R_slice ab.out; subst eo40) | (go_at_call 30; refine calls_of_args (args' := #[.slice A37 ((l0.take ((aa) : Int).toNat).drop (x6_1 : Int).toNat).length (c0 - x6_1.toNat), .slice Ao40 ae.length co40]) (by first | rfl | (rw [show ((l0.take ((aa) : Int).toNat).drop (x6_1 : Int).toNat).length = ((aa).toNat - x6_1.toNat) from (by rw [List.length_drop, List.length_take]; have h_ : ((aa) : Int) ≤ (l0.length : Int) := of_decide_eq_true (by first | (with_reducible assumption) | assumption); omega)] <;> rfl) | (rw [show ((l0.take ((aa) : Int).toNat).drop (x6_1 : Int).toNat).length = ((aa).toNat - x6_1.toNat) from (by rw [List.length_drop, List.length_take]; have h_ : ((aa) : Int) ≤ (l0.length : Int) := of_decide_eq_true (by first | (with_reducible assumption) | assumption); omega)])) ?_; (with_reducible refine (bytes_Count.calls _ _ ((l0.take ((aa) : Int).toNat).drop (x6_1 : Int).toNat) _ _ ae t270 _ ?side1 ?side2 ?side3 ?side4 al.out).mono ?_); (case side1 | side3 => repeat (first | exact (Kd.C_below af.out HB.out) | exact (Kd.R_reads' ab.out).2.2 | (with_reducible refine Kd.C_alloc ?_ _) | (with_reducible refine Kd.C_drewN ?_ _) | (with_reducible refine Kd.C_drew ?_))); (case side2 | side4 => first | exact ag.out | exact (Kd.R_reads' ab.out).2.1); rintro e w' ⟨rfl, ⟨nd, rfl⟩⟩; (try first | exact ⟨rfl, _, World.drewN_drewN _ _ _⟩ | exact ⟨rfl, _, Eq.trans (World.drewN_drewN _ _ _) (congrArg (World.drewN _) (Nat.add_assoc _ _ _))⟩))))
                  go_meet
                  case rel => exact ⟨_, (decide ((rd l0 (ai)) > 4)), (by first | rfl | (simp; done) | (simp only [← hji9] <;> (first | rfl | simp)) | (simp [*]; done)), H', ⟨by have := HK1.out; first | omega | exact Nat.le_refl _⟩, ⟨by (with_reducible repeat (first | apply Kd.S_alloc | apply Kd.S_drewN | apply Kd.S_drew)); exact Kd.S_mono HO_5.out (fun _ hk => trivial)⟩, ⟨by repeat (first | (with_reducible first | exact HB.out | apply below_alloc | apply pw_below_drewN | apply below_drew1) | exact HB.out)⟩⟩
             ·rw [if_neg c15] at H
              exact absurd H (by simp)
            ·rw [if_neg c14] at H
             exact absurd H (by simp)
           ·rw [if_neg c13] at H
            exact absurd H (by simp)
          case rest =>
           clear HC12
           try clear c1
           try clear c2
           try clear c2b0
           try clear p2
           try clear q2
           try clear hx2
           try clear c3
           try clear c4
           try clear c4b0
           try clear c5
           try clear c5b0
           try clear p6
           try clear c7
           try clear c7b0
           try clear c8
           try clear c8b0
           try clear c10
           try clear c10b0
           try clear c11
           try clear c11b0
           try clear c13
           try clear c13b0
           try clear c13b1
           try clear c14
           try clear c14b0
           try clear c14b1
           try clear c15
           try clear c15b0
           try clear c15b1
           try clear c17
           try clear c17b0
           try clear c22
           try clear c22b0
           try clear p26
           try clear q26
           try clear hx26
           try clear c27
           try clear c27b0
           try clear c32
           try clear c32b0
           try clear hx263_0
           try clear hx264_0
           try clear hx265_0
           try clear p263
           try clear p264
           try clear p265
           try clear q263
           try clear q264
           try clear q265
           obtain ⟨kq, x58_11, rfl, HA, HJ11, HO_5, HB⟩ := hcut
           cases kq with
           | zero => exact absurd HA.out (by simp [wire_Split.j1])
           | succ kj11 =>
            have H := HA.out
            clear HA
            simp only [wire_Split.j1] at H
            by_cases c41 : x58_11 = true
            ·subst c41
             have H1 : (some (x5_1, x6_1, 4)) = some (r1, r2, r3) := by rw [if_pos rfl] at H; exact H
             clear H
             have H := H1
             clear H1
             simp only [Option.some.injEq, Prod.mk.injEq] at H
             obtain ⟨rfl, rfl, rfl⟩ := H
             go_wp2
             repeat (go_quiet (fail); try go_wp2)
             go_ret3
             exact ⟨_, by first | rfl | (simp [errW_none, errW_some] <;> rfl) | (simp only [← hji3, ← hji6, ← hji9]; first | rfl | (simp [errW_none, errW_some] <;> rfl)) | (simp [*, errW_none, errW_some] <;> rfl), by (with_reducible repeat (first | apply Kd.S_alloc | apply Kd.S_drewN | apply Kd.S_drew)); exact HO_5.out, by repeat (first | (with_reducible first | exact HB.out | apply below_alloc | apply pw_below_drewN | apply below_drew1) | exact HB.out)⟩
            ·replace c41 := Bool.eq_false_iff.mpr c41
             subst c41
             have H1 := H
             rw [if_neg (show ¬ (false = true) by decide)] at H1
             clear H
             have H := H1
             clear H1
             by_cases c42 : (Go.bits .or .i64 (wrap64 ((wrap64 (rd l0 (aa))) * 256)) (wrap64 (rd l0 (ad)))) > (wrap64 ((l0.length : Int) - x6_1))
             ·rw [if_pos c42] at H
              have c42b0 : decide ((wrap64 ((l0.length : Int) - x6_1)) < (Go.bits .or .i64 (wrap64 ((wrap64 (rd l0 (aa))) * 256)) (wrap64 (rd l0 (ad))))) = true := decide_eq_true c42
              clear c42
              simp only [Option.some.injEq, Prod.mk.injEq] at H
              obtain ⟨rfl, rfl, rfl⟩ := H
              go_wp2
              repeat (go_quiet (fail); try go_wp2)
              go_ret3
              exact ⟨_, by first | rfl | (simp [errW_none, errW_some] <;> rfl) | (simp only [← hji3, ← hji6, ← hji9]; first | rfl | (simp [errW_none, errW_some] <;> rfl)) | (simp [*, errW_none, errW_some] <;> rfl), by (with_reducible repeat (first | apply Kd.S_alloc | apply Kd.S_drewN | apply Kd.S_drew)); exact HO_5.out, by repeat (first | (with_reducible first | exact HB.out | apply below_alloc | apply pw_below_drewN | apply below_drew1) | exact HB.out)⟩
             ·rw [if_neg c42] at H
              have c42b0 : decide ((wrap64 ((l0.length : Int) - x6_1)) < (Go.bits .or .i64 (wrap64 ((wrap64 (rd l0 (aa))) * 256)) (wrap64 (rd l0 (ad))))) = false := decide_eq_false c42
              clear c42
              by_cases c43 : 0 ≤ x6_1
              ·rw [if_pos c43] at H
               have c43b0 := eq_true c43
               have c43b1 : decide (0 ≤ x6_1) = true := decide_eq_true c43
               clear c43
               by_cases c44 : x6_1 ≤ (wrap64 (x6_1 + (Go.bits .or .i64 (wrap64 ((wrap64 (rd l0 (aa))) * 256)) (wrap64 (rd l0 (ad))))))
               ·rw [if_pos c44] at H
                have c44b0 := eq_true c44
                have c44b1 : decide (x6_1 ≤ (wrap64 (x6_1 + (Go.bits .or .i64 (wrap64 ((wrap64 (rd l0 (aa))) * 256)) (wrap64 (rd l0 (ad))))))) = true := decide_eq_true c44
                by_cases c45 : (wrap64 (x6_1 + (Go.bits .or .i64 (wrap64 ((wrap64 (rd l0 (aa))) * 256)) (wrap64 (rd l0 (ad)))))) ≤ (l0.length : Int)
                ·rw [if_pos c45] at H
                 have c45b0 := eq_true c45
                 have c45b1 : decide ((wrap64 (x6_1 + (Go.bits .or .i64 (wrap64 ((wrap64 (rd l0 (aa))) * 256)) (wrap64 (rd l0 (ad)))))) ≤ (l0.length : Int)) = true := decide_eq_true c45
                 replace H := Option.bind_eq_some_iff.mp H
                 obtain ⟨t272, A460, H⟩ := H
                 (try dsimp only at H)
                 have A46 := Aside0.mk A460
                 clear A460
                 by_cases c47 : x5_1.length < 5864062014805
                 ·rw [if_pos c47] at H
                  have LMc47 := Aside0.mk c47
                  clear c47
                  obtain ⟨y275, hy275⟩ : ∃ y_ : List (List Int), y_ = (x5_1 ++ [t272]) := ⟨_, rfl⟩
                  replace H : (wire_Split.l0 kj11 l0 y275 (wrap64 (x6_1 + (Go.bits .or .i64 (wrap64 ((wrap64 (rd l0 (aa))) * 256)) (wrap64 (rd l0 (ad))))))) = some (r1, r2, r3) := by first | (rw [hy275]; with_reducible exact H) | (have H2_ := (Option.bind_some _ _).symm.trans H; rw [hy275]; with_reducible exact H2_) | (have H2_ := (Option.bind_some _ _).symm.trans H; with_reducible exact H2_) | with_reducible exact H | (rw [hy275]; exact H) | exact H
                  have Ny275 := Aside0.mk hy275
                  clear hy275
                  have H' := Aside0.mk H
                  clear H
                  obtain ⟨i048, hi048, _, hsz48, _⟩ := info_parts info5
                  obtain ⟨A48, hcut48, hA48, hC48⟩ := print_mid_of (P := Try.prog) (Value.int .u8) 0 22 5 .i64 .i64 Try.underlying22 hi048 hsz48 (some ad263) c0 l0 x6_1 (wrap64 (x6_1 + (Go.bits .or .i64 (wrap64 ((wrap64 (rd l0 (aa))) * 256)) (wrap64 (rd l0 (ad)))))) (of_decide_eq_true (by first | (with_reducible assumption) | assumption)) (by first | omega | exact of_decide_eq_true (by first | (with_reducible assumption) | assumption)) (of_decide_eq_true (by first | (with_reducible assumption) | assumption)) HC0.out
                  have HR271 := Aside0.mk (Kd.C_of_reads (h1 := fun _ => rfl) (hA48 _ (Kd.reads_of_C am.out)))
                  have HC271 := Aside0.mk hC48
                  clear hA48 hC48 hi048 hsz48
                  go_wp2_with (first | (go_at_call 27; refine calls_of_args (args' := #[.slice A48 ((l0.take ((wrap64 (x6_1 + (Go.bits .or .i64 (wrap64 ((wrap64 (rd l0 (aa))) * 256)) (wrap64 (rd l0 (ad)))))) : Int).toNat).drop (x6_1 : Int).toNat).length (c0 - x6_1.toNat)]) (by first | rfl | (rw [show ((l0.take ((wrap64 (x6_1 + (Go.bits .or .i64 (wrap64 ((wrap64 (rd l0 (aa))) * 256)) (wrap64 (rd l0 (ad)))))) : Int).toNat).drop (x6_1 : Int).toNat).length = ((wrap64 (x6_1 + (Go.bits .or .i64 (wrap64 ((wrap64 (rd l0 (aa))) * 256)) (wrap64 (rd l0 (ad)))))).toNat - x6_1.toNat) from (by rw [List.length_drop, List.length_take]; have h_ : ((wrap64 (x6_1 + (Go.bits .or .i64 (wrap64 ((wrap64 (rd l0 (aa))) * 256)) (wrap64 (rd l0 (ad)))))) : Int) ≤ (l0.length : Int) := of_decide_eq_true (by first | (with_reducible assumption) | assumption); omega)] <;> rfl) | (rw [show ((l0.take ((wrap64 (x6_1 + (Go.bits .or .i64 (wrap64 ((wrap64 (rd l0 (aa))) * 256)) (wrap64 (rd l0 (ad)))))) : Int).toNat).drop (x6_1 : Int).toNat).length = ((wrap64 (x6_1 + (Go.bits .or .i64 (wrap64 ((wrap64 (rd l0 (aa))) * 256)) (wrap64 (rd l0 (ad)))))).toNat - x6_1.toNat) from (by rw [List.length_drop, List.length_take]; have h_ : ((wrap64 (x6_1 + (Go.bits .or .i64 (wrap64 ((wrap64 (rd l0 (aa))) * 256)) (wrap64 (rd l0 (ad)))))) : Int) ≤ (l0.length : Int) := of_decide_eq_true (by first | (with_reducible assumption) | assumption); omega)])) ?_; (with_reducible refine (bytes_Clone.calls _ _ ((l0.take ((wrap64 (x6_1 + (Go.bits .or .i64 (wrap64 ((wrap64 (rd l0 (aa))) * 256)) (wrap64 (rd l0 (ad)))))) : Int).toNat).drop (x6_1 : Int).toNat) t272 _ ?side1 ?side2 A46.out).mono ?_); (case side1 => repeat (first | exact (Kd.C_below HR271.out HB.out) | (with_reducible refine Kd.C_alloc ?_ _) | (with_reducible refine Kd.C_drewN ?_ _) | (with_reducible refine Kd.C_drew ?_))); (case side2 => exact HC271.out); rintro e w49 ⟨v273, rfl, ho0, hb⟩; replace HO_5 := Aside0.mk (Kd.S_elder' (by (with_reducible repeat (first | apply Kd.S_alloc | apply Kd.S_drewN | apply Kd.S_drew)); exact HO_5.out) (Kd.R_base ho0) hb); have ah := Aside0.mk (Kd.R_lower ho0 (below_size (by repeat (first | (with_reducible first | exact HB.out | apply below_alloc | apply pw_below_drewN | apply below_drew1) | exact HB.out)))); replace HB := Aside0.mk (below_step (by repeat (first | (with_reducible first | exact HB.out | apply below_alloc | apply pw_below_drewN | apply below_drew1) | exact HB.out)) hb); (try clear hb); (try clear hb2); (try clear hk); (try clear hi); (try clear ho0); obtain ⟨aj, ak, eo51⟩ := Kd.R_slice ah.out; subst eo51) | ((with_reducible refine gate_builtin (b := .append) (xs := #[.tmp 67, .tmp 75]) rfl ?_); at_builtin; refine Kd.S_append (Kd.slice 5 (Kd.int .u8)) (w0 := w) w.heap.size rfl (.tmp 67) (.tmp 75) 33 22 (.slice none 0 0) 24 rfl Try.underlying33 info22 rfl (by decide) (by omega) u5 x5_1 t272 [.slice aj t272.length ak] (fun _ => True) (fun k_ => some k_ = (.slice aj t272.length ak : Value).ownBlock) rfl rfl ?aP (fun k_ hk_ => ((Kd.R_mono (ok' := fun k_ => ((fun _ => True)) k_ ∧ some k_ ≠ (u5 : Value).ownBlock) (Kd.R_apart' (ah.out) (Kd.S_typed HO_5.out) (by decide)) (fun k_ hk => ⟨trivial, hk.2⟩))).1 k_ hk_.symm) ?aF ?aO ?aB ?aS ?aL ?_; (case aP => exact Kd.M_row (Kd.R_mono (Kd.R_tight rfl (Kd.R_mono (ok' := fun k_ => ((fun _ => True)) k_ ∧ some k_ ≠ (u5 : Value).ownBlock) (Kd.R_apart' (ah.out) (Kd.S_typed HO_5.out) (by decide)) (fun k_ hk => ⟨trivial, hk.2⟩))) (fun _ h_ => h_))); (case aB => exact (by repeat (first | (with_reducible first | exact HB.out | apply below_alloc | apply pw_below_drewN | apply below_drew1) | exact HB.out))); (case aF => exact (fun _ _ => trivial)); (case aO => exact (by (with_reducible repeat (first | apply Kd.S_alloc | apply Kd.S_drewN | apply Kd.S_drew)); exact Kd.S_mono HO_5.out (fun k_ hk => ⟨trivial, fun e_ => hk.2 e_⟩))); (case aS => exact (below_size (by repeat (first | (with_reducible first | exact HB.out | apply below_alloc | apply pw_below_drewN | apply below_drew1) | exact HB.out)))); (case aL => have := LMc47.out; omega); intro v276 w50 ho hb hg hat; rw [← Ny275.out] at ho; replace HB := Aside0.mk (hb); have HO277 := Aside0.mk (ho); clear HO_5; clear ah; clear ho hb hg hat))
                  repeat (go_quiet (first | (go_at_call 27; refine calls_of_args (args' := #[.slice A48 ((l0.take ((wrap64 (x6_1 + (Go.bits .or .i64 (wrap64 ((wrap64 (rd l0 (aa))) * 256)) (wrap64 (rd l0 (ad)))))) : Int).toNat).drop (x6_1 : Int).toNat).length (c0 - x6_1.toNat)]) (by first | rfl | (rw [show ((l0.take ((wrap64 (x6_1 + (Go.bits .or .i64 (wrap64 ((wrap64 (rd l0 (aa))) * 256)) (wrap64 (rd l0 (ad)))))) : Int).toNat).drop (x6_1 : Int).toNat).length = ((wrap64 (x6_1 + (Go.bits .or .i64 (wrap64 ((wrap64 (rd l0 (aa))) * 256)) (wrap64 (rd l0 (ad)))))).toNat - x6_1.toNat) from (by rw [List.length_drop, List.length_take]; have h_ : ((wrap64 (x6_1 + (Go.bits .or .i64 (wrap64 ((wrap64 (rd l0 (aa))) * 256)) (wrap64 (rd l0 (ad)))))) : Int) ≤ (l0.length : Int) := of_decide_eq_true (by first | (with_reducible assumption) | assumption); omega)] <;> rfl) | (rw [show ((l0.take ((wrap64 (x6_1 + (Go.bits .or .i64 (wrap64 ((wrap64 (rd l0 (aa))) * 256)) (wrap64 (rd l0 (ad)))))) : Int).toNat).drop (x6_1 : Int).toNat).length = ((wrap64 (x6_1 + (Go.bits .or .i64 (wrap64 ((wrap64 (rd l0 (aa))) * 256)) (wrap64 (rd l0 (ad)))))).toNat - x6_1.toNat) from (by rw [List.length_drop, List.length_take]; have h_ : ((wrap64 (x6_1 + (Go.bits .or .i64 (wrap64 ((wrap64 (rd l0 (aa))) * 256)) (wrap64 (rd l0 (ad)))))) : Int) ≤ (l0.length : Int) := of_decide_eq_true (by first | (with_reducible assumption) | assumption); omega)])) ?_; (with_reducible refine (bytes_Clone.calls _ _ ((l0.take ((wrap64 (x6_1 + (Go.bits .or .i64 (wrap64 ((wrap64 (rd l0 (aa))) * 256)) (wrap64 (rd l0 (ad)))))) : Int).toNat).drop (x6_1 : Int).toNat) t272 _ ?side1 ?side2 A46.out).mono ?_); (case side1 => repeat (first | exact (Kd.C_below HR271.out HB.out) | (with_reducible refine Kd.C_alloc ?_ _) | (with_reducible refine Kd.C_drewN ?_ _) | (with_reducible refine Kd.C_drew ?_))); (case side2 => exact HC271.out); rintro e w49 ⟨v273, rfl, ho0, hb⟩; replace HO_5 := Aside0.mk (Kd.S_elder' (by (with_reducible repeat (first | apply Kd.S_alloc | apply Kd.S_drewN | apply Kd.S_drew)); exact HO_5.out) (Kd.R_base ho0) hb); have ah := Aside0.mk (Kd.R_lower ho0 (below_size (by repeat (first | (with_reducible first | exact HB.out | apply below_alloc | apply pw_below_drewN | apply below_drew1) | exact HB.out)))); replace HB := Aside0.mk (below_step (by repeat (first | (with_reducible first | exact HB.out | apply below_alloc | apply pw_below_drewN | apply below_drew1) | exact HB.out)) hb); (try clear hb); (try clear hb2); (try clear hk); (try clear hi); (try clear ho0); obtain ⟨aj, ak, eo51⟩ := Kd.R_slice ah.out; subst eo51) | ((with_reducible refine gate_builtin (b := .append) (xs := #[.tmp 67, .tmp 75]) rfl ?_); at_builtin; refine Kd.S_append (Kd.slice 5 (Kd.int .u8)) (w0 := w) w.heap.size rfl (.tmp 67) (.tmp 75) 33 22 (.slice none 0 0) 24 rfl Try.underlying33 info22 rfl (by decide) (by omega) u5 x5_1 t272 [.slice aj t272.length ak] (fun _ => True) (fun k_ => some k_ = (.slice aj t272.length ak : Value).ownBlock) rfl rfl ?aP (fun k_ hk_ => ((Kd.R_mono (ok' := fun k_ => ((fun _ => True)) k_ ∧ some k_ ≠ (u5 : Value).ownBlock) (Kd.R_apart' (ah.out) (Kd.S_typed HO_5.out) (by decide)) (fun k_ hk => ⟨trivial, hk.2⟩))).1 k_ hk_.symm) ?aF ?aO ?aB ?aS ?aL ?_; (case aP => exact Kd.M_row (Kd.R_mono (Kd.R_tight rfl (Kd.R_mono (ok' := fun k_ => ((fun _ => True)) k_ ∧ some k_ ≠ (u5 : Value).ownBlock) (Kd.R_apart' (ah.out) (Kd.S_typed HO_5.out) (by decide)) (fun k_ hk => ⟨trivial, hk.2⟩))) (fun _ h_ => h_))); (case aB => exact (by repeat (first | (with_reducible first | exact HB.out | apply below_alloc | apply pw_below_drewN | apply below_drew1) | exact HB.out))); (case aF => exact (fun _ _ => trivial)); (case aO => exact (by (with_reducible repeat (first | apply Kd.S_alloc | apply Kd.S_drewN | apply Kd.S_drew)); exact Kd.S_mono HO_5.out (fun k_ hk => ⟨trivial, fun e_ => hk.2 e_⟩))); (case aS => exact (below_size (by repeat (first | (with_reducible first | exact HB.out | apply below_alloc | apply pw_below_drewN | apply below_drew1) | exact HB.out)))); (case aL => have := LMc47.out; omega); intro v276 w50 ho hb hg hat; rw [← Ny275.out] at ho; replace HB := Aside0.mk (hb); have HO277 := Aside0.mk (ho); clear HO_5; clear ah; clear ho hb hg hat)); try go_wp2_with (first | (go_at_call 27; refine calls_of_args (args' := #[.slice A48 ((l0.take ((wrap64 (x6_1 + (Go.bits .or .i64 (wrap64 ((wrap64 (rd l0 (aa))) * 256)) (wrap64 (rd l0 (ad)))))) : Int).toNat).drop (x6_1 : Int).toNat).length (c0 - x6_1.toNat)]) (by first | rfl | (rw [show ((l0.take ((wrap64 (x6_1 + (Go.bits .or .i64 (wrap64 ((wrap64 (rd l0 (aa))) * 256)) (wrap64 (rd l0 (ad)))))) : Int).toNat).drop (x6_1 : Int).toNat).length = ((wrap64 (x6_1 + (Go.bits .or .i64 (wrap64 ((wrap64 (rd l0 (aa))) * 256)) (wrap64 (rd l0 (ad)))))).toNat - x6_1.toNat) from (by rw [List.length_drop, List.length_take]; have h_ : ((wrap64 (x6_1 + (Go.bits .or .i64 (wrap64 ((wrap64 (rd l0 (aa))) * 256)) (wrap64 (rd l0 (ad)))))) : Int) ≤ (l0.length : Int) := of_decide_eq_true (by first | (with_reducible assumption) | assumption); omega)] <;> rfl) | (rw [show ((l0.take ((wrap64 (x6_1 + (Go.bits .or .i64 (wrap64 ((wrap64 (rd l0 (aa))) * 256)) (wrap64 (rd l0 (ad)))))) : Int).toNat).drop (x6_1 : Int).toNat).length = ((wrap64 (x6_1 + (Go.bits .or .i64 (wrap64 ((wrap64 (rd l0 (aa))) * 256)) (wrap64 (rd l0 (ad)))))).toNat - x6_1.toNat) from (by rw [List.length_drop, List.length_take]; have h_ : ((wrap64 (x6_1 + (Go.bits .or .i64 (wrap64 ((wrap64 (rd l0 (aa))) * 256)) (wrap64 (rd l0 (ad)))))) : Int) ≤ (l0.length : Int) := of_decide_eq_true (by first | (with_reducible assumption) | assumption); omega)])) ?_; (with_reducible refine (bytes_Clone.calls _ _ ((l0.take ((wrap64 (x6_1 + (Go.bits .or .i64 (wrap64 ((wrap64 (rd l0 (aa))) * 256)) (wrap64 (rd l0 (ad)))))) : Int).toNat).drop (x6_1 : Int).toNat) t272 _ ?side1 ?side2 A46.out).mono ?_); (case side1 => repeat (first | exact (Kd.C_below HR271.out HB.out) | (with_reducible refine Kd.C_alloc ?_ _) | (with_reducible refine Kd.C_drewN ?_ _) | (with_reducible refine Kd.C_drew ?_))); (case side2 => exact HC271.out); rintro e w49 ⟨v273, rfl, ho0, hb⟩; replace HO_5 := Aside0.mk (Kd.S_elder' (by (with_reducible repeat (first | apply Kd.S_alloc | apply Kd.S_drewN | apply Kd.S_drew)); exact HO_5.out) (Kd.R_base ho0) hb); have ah := Aside0.mk (Kd.R_lower ho0 (below_size (by repeat (first | (with_reducible first | exact HB.out | apply below_alloc | apply pw_below_drewN | apply below_drew1) | exact HB.out)))); replace HB := Aside0.mk (below_step (by repeat (first | (with_reducible first | exact HB.out | apply below_alloc | apply pw_below_drewN | apply below_drew1) | exact HB.out)) hb); (try clear hb); (try clear hb2); (try clear hk); (try clear hi); (try clear ho0); obtain ⟨aj, ak, eo51⟩ := Kd.R_slice ah.out; subst eo51) | ((with_reducible refine gate_builtin (b := .append) (xs := #[.tmp 67, .tmp 75]) rfl ?_); at_builtin; refine Kd.S_append (Kd.slice 5 (Kd.int .u8)) (w0 := w) w.heap.size rfl (.tmp 67) (.tmp 75) 33 22 (.slice none 0 0) 24 rfl Try.underlying33 info22 rfl (by decide) (by omega) u5 x5_1 t272 [.slice aj t272.length ak] (fun _ => True) (fun k_ => some k_ = (.slice aj t272.length ak : Value).ownBlock) rfl rfl ?aP (fun k_ hk_ => ((Kd.R_mono (ok' := fun k_ => ((fun _ => True)) k_ ∧ some k_ ≠ (u5 : Value).ownBlock) (Kd.R_apart' (ah.out) (Kd.S_typed HO_5.out) (by decide)) (fun k_ hk => ⟨trivial, hk.2⟩))).1 k_ hk_.symm) ?aF ?aO ?aB ?aS ?aL ?_; (case aP => exact Kd.M_row (Kd.R_mono (Kd.R_tight rfl (Kd.R_mono (ok' := fun k_ => ((fun _ => True)) k_ ∧ some k_ ≠ (u5 : Value).ownBlock) (Kd.R_apart' (ah.out) (Kd.S_typed HO_5.out) (by decide)) (fun k_ hk => ⟨trivial, hk.2⟩))) (fun _ h_ => h_))); (case aB => exact (by repeat (first | (with_reducible first | exact HB.out | apply below_alloc | apply pw_below_drewN | apply below_drew1) | exact HB.out))); (case aF => exact (fun _ _ => trivial)); (case aO => exact (by (with_reducible repeat (first | apply Kd.S_alloc | apply Kd.S_drewN | apply Kd.S_drew)); exact Kd.S_mono HO_5.out (fun k_ hk => ⟨trivial, fun e_ => hk.2 e_⟩))); (case aS => exact (below_size (by repeat (first | (with_reducible first | exact HB.out | apply below_alloc | apply pw_below_drewN | apply below_drew1) | exact HB.out)))); (case aL => have := LMc47.out; omega); intro v276 w50 ho hb hg hat; rw [← Ny275.out] at ho; replace HB := Aside0.mk (hb); have HO277 := Aside0.mk (ho); clear HO_5; clear ah; clear ho hb hg hat)))
                  go_roundg kj11
                  case measure => have := HK1.out; have := HJ11.out; omega
                  case rel => exact ⟨(y275), (wrap64 (x6_1 + (Go.bits .or .i64 (wrap64 ((wrap64 (rd l0 (aa))) * 256)) (wrap64 (rd l0 (ad)))))), (by first | rfl | (simp; done) | (simp only [← hji3, ← hji6] <;> (first | rfl | simp)) | (simp [*]; done)), H', ⟨by have := HK1.out; have := HJ11.out; omega⟩, ⟨by (with_reducible repeat (first | apply Kd.S_alloc | apply Kd.S_drewN | apply Kd.S_drew)); exact HO277.out⟩, ⟨by repeat (first | (with_reducible first | exact HB.out | apply below_alloc | apply pw_below_drewN | apply below_drew1) | exact HB.out)⟩⟩
                 ·rw [if_neg c47] at H
                  exact absurd H (by simp)
                ·rw [if_neg c45] at H
                 exact absurd H (by simp)
               ·rw [if_neg c44] at H
                exact absurd H (by simp)
              ·rw [if_neg c43] at H
               exact absurd H (by simp)
         ·rw [if_neg c11] at H
          exact absurd H (by simp)
        ·rw [if_neg c10] at H
         exact absurd H (by simp)
       ·rw [if_neg c8] at H
        exact absurd H (by simp)
      ·rw [if_neg c7] at H
       exact absurd H (by simp)
     ·rw [if_neg c5] at H
      exact absurd H (by simp)
    ·rw [if_neg c4] at H
     exact absurd H (by simp)
   ·rw [if_neg c2] at H
    have c2b0 : decide (19 ≤ (wrap64 ((l0.length : Int) - x6_1))) = false := decide_eq_false c2
    clear c2
    simp only [Option.some.injEq, Prod.mk.injEq] at H
    obtain ⟨rfl, rfl, rfl⟩ := H
    go_wp2
    repeat (go_quiet (fail); try go_wp2)
    go_ret3
    exact ⟨_, by first | rfl | (simp [errW_none, errW_some] <;> rfl) | (simp [*, errW_none, errW_some] <;> rfl), by (with_reducible repeat (first | apply Kd.S_alloc | apply Kd.S_drewN | apply Kd.S_drew)); exact HO_5.out, by repeat (first | (with_reducible first | exact HB.out | apply below_alloc | apply pw_below_drewN | apply below_drew1) | exact HB.out)⟩

def wire_Alive.f  : Option (List Int) := (wire_framed.f 4 ([] : List Int)).bind fun t278 => (some t278)
set_option maxHeartbeats 8000000 in
set_option maxRecDepth 100000 in
theorem wire_Alive.calls  (r : List Int) (w : World) (h : wire_Alive.f  = some r) :
    Calls Try.prog 24 #[] w fun e w' => ∃ v0_ : Value, e = .returned (v0_) ∧ Kd.R (Kd.int .u8) 5 w' w.heap.size (fun _ => True) v0_ r ∧ Below w.heap.size w w' := by
  have HB := Aside0.mk (Below.refl w.heap.size w)
  have H : ((wire_framed.f 4 ([] : List Int)).bind fun t278 => (some t278)) = some r := h
  clear h
  replace H := Option.bind_eq_some_iff.mp H
  obtain ⟨t278, A10, H⟩ := H
  replace H : (some t278) = some r := H
  have A1 := Aside0.mk A10
  clear A10
  obtain rfl := Option.some.inj H
  go_enter Try.func24, Try.ntmps24
  go_wp2_with (first | ((with_reducible refine gate_callee (f := 37) rfl ?_); refine goesL_ (some 1) rfl rfl Try.func37 (by kernel_rfl) rfl #[.int .u8 4, .slice none 0 0] rfl (by (try simp only [List.map_toArray, List.map_cons, List.map_nil]); first | done | rfl | (simp only [List.length_drop, List.length_take]; rfl)) ?_; (refine (wire_framed.calls 4 _ _ ([] : List Int) t278 _ ?side1 ?side2 A1.out).mono ?_); (case side1 => exact Kd.C_nil _ _); (case side2 => exact Nat.le_refl _); rintro e w2 ⟨v279, rfl, ho0, hb⟩; refine ⟨_, rfl, ?_⟩; have n0_ := Aside0.mk (Kd.R_lower ho0 (below_size (by repeat (first | (with_reducible first | exact HB.out | apply below_alloc | apply pw_below_drewN | apply below_drew1) | exact HB.out)))); have n1_ := Aside0.mk (below_step (by repeat (first | (with_reducible first | exact HB.out | apply below_alloc | apply pw_below_drewN | apply below_drew1) | exact HB.out)) hb); clear HB; have HO280 := n0_; have HB := n1_; clear n0_ n1_; (try clear hb); (try clear hb2); (try clear hk); (try clear hi); (try clear ho0)))
  go_ret
  exact ⟨_, by first | rfl | (simp [errW_none, errW_some] <;> rfl) | (simp [*, errW_none, errW_some] <;> rfl), by (with_reducible repeat (first | apply Kd.R_alloc | apply Kd.R_drewN | apply Kd.R_drew)); exact HO280.out, by repeat (first | (with_reducible first | exact HB.out | apply below_alloc | apply pw_below_drewN | apply below_drew1) | exact HB.out)⟩

def whirligigref09_Few.f (a0_0 : Int) (a0_1 : Int) (a0_2 : Int) (l0_3 : List Int) (l0_4 : List (S102)) (a0_5 : Int) (l0_6 : List Int) : Option (Bool) := if (l0_3.length : Int) ≤ 100 then (if (l0_4.length : Int) ≤ 100 then (some (decide ((l0_6.length : Int) ≤ 100))) else (some false)) else (some false)
set_option maxHeartbeats 8000000 in
set_option maxRecDepth 100000 in
theorem whirligigref09_Few.calls (a0_0 : Int) (a0_1 : Int) (a0_2 : Int) (A0_3 : Option Addr) (c0_3 : Nat) (l0_3 : List Int) (A0_4 : Option Addr) (c0_4 : Nat) (l0_4 : List (S102)) (a0_5 : Int) (A0_6 : Option Addr) (c0_6 : Nat) (l0_6 : List Int) (r : Bool) (w : World) (hr0_3 : Kd.C (Kd.int .i64) w A0_3 l0_3.length l0_3) (hc0_3 : l0_3.length ≤ c0_3) (hr0_4 : Kd.C k102 w A0_4 l0_4.length l0_4) (hc0_4 : l0_4.length ≤ c0_4) (hr0_6 : Kd.C (Kd.int .i64) w A0_6 l0_6.length l0_6) (hc0_6 : l0_6.length ≤ c0_6) (h : whirligigref09_Few.f a0_0 a0_1 a0_2 l0_3 l0_4 a0_5 l0_6 = some r) :
    Calls Try.prog 31 #[.agg #[.int .i64 a0_0, .int .i64 a0_1, .int .i64 a0_2, .slice A0_3 l0_3.length c0_3, .slice A0_4 l0_4.length c0_4, .int .i64 a0_5, .slice A0_6 l0_6.length c0_6]] w fun e w' => e = .returned (.bool r) ∧ Below w.heap.size w w' := by
  have hu41 := Try.underlying41
  have HR0_3 := Aside0.mk hr0_3
  have HC0_3 := Aside0.mk hc0_3
  clear hr0_3 hc0_3
  have HR0_4 := Aside0.mk hr0_4
  have HC0_4 := Aside0.mk hc0_4
  clear hr0_4 hc0_4
  have HR0_6 := Aside0.mk hr0_6
  have HC0_6 := Aside0.mk hc0_6
  clear hr0_6 hc0_6
  have HB := Aside0.mk (Below.refl w.heap.size w)
  have H : (if (l0_3.length : Int) ≤ 100 then (if (l0_4.length : Int) ≤ 100 then (some (decide ((l0_6.length : Int) ≤ 100))) else (some false)) else (some false)) = some r := h
  clear h
  by_cases c2 : (l0_3.length : Int) ≤ 100
  · rw [if_pos c2] at H
    have c2b0 : decide ((l0_3.length : Int) ≤ 100) = true := decide_eq_true c2
    have c2b1 : decide (l0_3.length ≤ 100) = true := decide_eq_true (by omega)
    clear c2
    by_cases c3 : (l0_4.length : Int) ≤ 100
    · rw [if_pos c3] at H
      have c3b0 : decide ((l0_4.length : Int) ≤ 100) = true := decide_eq_true c3
      have c3b1 : decide (l0_4.length ≤ 100) = true := decide_eq_true (by omega)
      clear c3
      obtain rfl := Option.some.inj H
      go_enter Try.func31, Try.ntmps31
      go_wp2_with (first | ((with_reducible refine gate_dst (N := 1) rfl ?_); (try (refine gate_guard (by rfl) ?_; dsimp only)); refine box_event ?hg (N := 1) ?hd (cs := #[.int .i64 a0_0, .int .i64 a0_1, .int .i64 a0_2, .slice A0_3 l0_3.length c0_3, .slice A0_4 l0_4.length c0_4, .int .i64 a0_5, .slice A0_6 l0_6.length c0_6]) (t := 41) ?hr ?_; (case hd => rfl); (case hg => rfl); (case hr => first | (go_simp; done) | (go_simp; rfl)); intro gb281 hg w4 hbox hb; have n0_ := Aside0.mk (below_step (by repeat (first | (with_reducible first | exact HB.out | apply below_alloc | apply pw_below_drewN | apply below_drew1) | exact HB.out)) hb); have n1_ := Aside0.mk (hbox); have n2_ := Aside0.mk ((by rw [hg]; exact (below_size (by repeat (first | (with_reducible first | exact HB.out | apply below_alloc | apply pw_below_drewN | apply below_drew1) | exact HB.out))) : w.heap.size ≤ gb281)); have n3_ := Aside0.mk ((by rw [hg]; exact (below_size (by repeat (first | (with_reducible first | exact HB.out | apply below_alloc | apply pw_below_drewN | apply below_drew1) | exact HB.out))) : w.heap.size ≤ gb281)); clear HB; have HB := n0_; have BK281 := n1_; have GW281 := n2_; have GE281 := n3_; clear n0_ n1_ n2_ n3_; clear hb hbox hg; have hcz5_0 : w4.cell? ⟨gb281, 0, none⟩ = some (.int .i64 a0_0) := (blk_cell BK281.out 0).trans rfl; have hcz5_1 : w4.cell? ⟨gb281, 1, none⟩ = some (.int .i64 a0_1) := (blk_cell BK281.out 1).trans rfl; have hcz5_2 : w4.cell? ⟨gb281, 2, none⟩ = some (.int .i64 a0_2) := (blk_cell BK281.out 2).trans rfl; have hcz5_3 : w4.cell? ⟨gb281, 3, none⟩ = some (.slice A0_3 l0_3.length c0_3) := (blk_cell BK281.out 3).trans rfl; have hcz5_4 : w4.cell? ⟨gb281, 4, none⟩ = some (.slice A0_4 l0_4.length c0_4) := (blk_cell BK281.out 4).trans rfl; have hcz5_5 : w4.cell? ⟨gb281, 5, none⟩ = some (.int .i64 a0_5) := (blk_cell BK281.out 5).trans rfl; have hcz5_6 : w4.cell? ⟨gb281, 6, none⟩ = some (.slice A0_6 l0_6.length c0_6) := (blk_cell BK281.out 6).trans rfl; have hfz5_0 := blk_frozen BK281.out 0; have hfz5_1 := blk_frozen BK281.out 1; have hfz5_2 := blk_frozen BK281.out 2; have hfz5_3 := blk_frozen BK281.out 3; have hfz5_4 := blk_frozen BK281.out 4; have hfz5_5 := blk_frozen BK281.out 5; have hfz5_6 := blk_frozen BK281.out 6))
      go_ret
      exact ⟨by first | rfl | (simp [errW_none, errW_some] <;> rfl) | (simp [*, errW_none, errW_some] <;> rfl), by repeat (first | (with_reducible first | exact HB.out | apply below_alloc | apply pw_below_drewN | apply below_drew1 | refine below_set ?_ GE281.out) | exact HB.out)⟩
    · rw [if_neg c3] at H
      have c3b0 : decide ((l0_4.length : Int) ≤ 100) = false := decide_eq_false c3
      have c3b1 : decide (l0_4.length ≤ 100) = false := decide_eq_false (by omega)
      clear c3
      obtain rfl := Option.some.inj H
      go_enter Try.func31, Try.ntmps31
      go_wp2_with (first | ((with_reducible refine gate_dst (N := 1) rfl ?_); (try (refine gate_guard (by rfl) ?_; dsimp only)); refine box_event ?hg (N := 1) ?hd (cs := #[.int .i64 a0_0, .int .i64 a0_1, .int .i64 a0_2, .slice A0_3 l0_3.length c0_3, .slice A0_4 l0_4.length c0_4, .int .i64 a0_5, .slice A0_6 l0_6.length c0_6]) (t := 41) ?hr ?_; (case hd => rfl); (case hg => rfl); (case hr => first | (go_simp; done) | (go_simp; rfl)); intro gb281 hg w6 hbox hb; have n0_ := Aside0.mk (below_step (by repeat (first | (with_reducible first | exact HB.out | apply below_alloc | apply pw_below_drewN | apply below_drew1) | exact HB.out)) hb); have n1_ := Aside0.mk (hbox); have n2_ := Aside0.mk ((by rw [hg]; exact (below_size (by repeat (first | (with_reducible first | exact HB.out | apply below_alloc | apply pw_below_drewN | apply below_drew1) | exact HB.out))) : w.heap.size ≤ gb281)); have n3_ := Aside0.mk ((by rw [hg]; exact (below_size (by repeat (first | (with_reducible first | exact HB.out | apply below_alloc | apply pw_below_drewN | apply below_drew1) | exact HB.out))) : w.heap.size ≤ gb281)); clear HB; have HB := n0_; have BK281 := n1_; have GW281 := n2_; have GE281 := n3_; clear n0_ n1_ n2_ n3_; clear hb hbox hg; have hcz7_0 : w6.cell? ⟨gb281, 0, none⟩ = some (.int .i64 a0_0) := (blk_cell BK281.out 0).trans rfl; have hcz7_1 : w6.cell? ⟨gb281, 1, none⟩ = some (.int .i64 a0_1) := (blk_cell BK281.out 1).trans rfl; have hcz7_2 : w6.cell? ⟨gb281, 2, none⟩ = some (.int .i64 a0_2) := (blk_cell BK281.out 2).trans rfl; have hcz7_3 : w6.cell? ⟨gb281, 3, none⟩ = some (.slice A0_3 l0_3.length c0_3) := (blk_cell BK281.out 3).trans rfl; have hcz7_4 : w6.cell? ⟨gb281, 4, none⟩ = some (.slice A0_4 l0_4.length c0_4) := (blk_cell BK281.out 4).trans rfl; have hcz7_5 : w6.cell? ⟨gb281, 5, none⟩ = some (.int .i64 a0_5) := (blk_cell BK281.out 5).trans rfl; have hcz7_6 : w6.cell? ⟨gb281, 6, none⟩ = some (.slice A0_6 l0_6.length c0_6) := (blk_cell BK281.out 6).trans rfl; have hfz7_0 := blk_frozen BK281.out 0; have hfz7_1 := blk_frozen BK281.out 1; have hfz7_2 := blk_frozen BK281.out 2; have hfz7_3 := blk_frozen BK281.out 3; have hfz7_4 := blk_frozen BK281.out 4; have hfz7_5 := blk_frozen BK281.out 5; have hfz7_6 := blk_frozen BK281.out 6))
      go_ret
      exact ⟨by first | rfl | (simp [errW_none, errW_some] <;> rfl) | (simp [*, errW_none, errW_some] <;> rfl), by repeat (first | (with_reducible first | exact HB.out | apply below_alloc | apply pw_below_drewN | apply below_drew1 | refine below_set ?_ GE281.out) | exact HB.out)⟩
  · rw [if_neg c2] at H
    have c2b0 : decide ((l0_3.length : Int) ≤ 100) = false := decide_eq_false c2
    have c2b1 : decide (l0_3.length ≤ 100) = false := decide_eq_false (by omega)
    clear c2
    obtain rfl := Option.some.inj H
    go_enter Try.func31, Try.ntmps31
    go_wp2_with (first | ((with_reducible refine gate_dst (N := 1) rfl ?_); (try (refine gate_guard (by rfl) ?_; dsimp only)); refine box_event ?hg (N := 1) ?hd (cs := #[.int .i64 a0_0, .int .i64 a0_1, .int .i64 a0_2, .slice A0_3 l0_3.length c0_3, .slice A0_4 l0_4.length c0_4, .int .i64 a0_5, .slice A0_6 l0_6.length c0_6]) (t := 41) ?hr ?_; (case hd => rfl); (case hg => rfl); (case hr => first | (go_simp; done) | (go_simp; rfl)); intro gb281 hg w8 hbox hb; have n0_ := Aside0.mk (below_step (by repeat (first | (with_reducible first | exact HB.out | apply below_alloc | apply pw_below_drewN | apply below_drew1) | exact HB.out)) hb); have n1_ := Aside0.mk (hbox); have n2_ := Aside0.mk ((by rw [hg]; exact (below_size (by repeat (first | (with_reducible first | exact HB.out | apply below_alloc | apply pw_below_drewN | apply below_drew1) | exact HB.out))) : w.heap.size ≤ gb281)); have n3_ := Aside0.mk ((by rw [hg]; exact (below_size (by repeat (first | (with_reducible first | exact HB.out | apply below_alloc | apply pw_below_drewN | apply below_drew1) | exact HB.out))) : w.heap.size ≤ gb281)); clear HB; have HB := n0_; have BK281 := n1_; have GW281 := n2_; have GE281 := n3_; clear n0_ n1_ n2_ n3_; clear hb hbox hg; have hcz9_0 : w8.cell? ⟨gb281, 0, none⟩ = some (.int .i64 a0_0) := (blk_cell BK281.out 0).trans rfl; have hcz9_1 : w8.cell? ⟨gb281, 1, none⟩ = some (.int .i64 a0_1) := (blk_cell BK281.out 1).trans rfl; have hcz9_2 : w8.cell? ⟨gb281, 2, none⟩ = some (.int .i64 a0_2) := (blk_cell BK281.out 2).trans rfl; have hcz9_3 : w8.cell? ⟨gb281, 3, none⟩ = some (.slice A0_3 l0_3.length c0_3) := (blk_cell BK281.out 3).trans rfl; have hcz9_4 : w8.cell? ⟨gb281, 4, none⟩ = some (.slice A0_4 l0_4.length c0_4) := (blk_cell BK281.out 4).trans rfl; have hcz9_5 : w8.cell? ⟨gb281, 5, none⟩ = some (.int .i64 a0_5) := (blk_cell BK281.out 5).trans rfl; have hcz9_6 : w8.cell? ⟨gb281, 6, none⟩ = some (.slice A0_6 l0_6.length c0_6) := (blk_cell BK281.out 6).trans rfl; have hfz9_0 := blk_frozen BK281.out 0; have hfz9_1 := blk_frozen BK281.out 1; have hfz9_2 := blk_frozen BK281.out 2; have hfz9_3 := blk_frozen BK281.out 3; have hfz9_4 := blk_frozen BK281.out 4; have hfz9_5 := blk_frozen BK281.out 5; have hfz9_6 := blk_frozen BK281.out 6))
    go_ret
    exact ⟨by first | rfl | (simp [errW_none, errW_some] <;> rfl) | (simp [*, errW_none, errW_some] <;> rfl), by repeat (first | (with_reducible first | exact HB.out | apply below_alloc | apply pw_below_drewN | apply below_drew1 | refine below_set ?_ GE281.out) | exact HB.out)⟩

def whirligiglaw10_few.f (l0_0 : List (S25)) (l0_1 : List (S25)) (a0_2 : Int) (a0_3 : Int) (a0_4 : Int) (l0_5 : List Int) (l0_6 : List (S102)) (a0_7 : Int) (l0_8 : List Int) : Option (Bool) := if (l0_0.length : Int) ≤ 100 then (if (l0_1.length : Int) ≤ 100 then ((whirligigref09_Few.f a0_2 a0_3 a0_4 l0_5 l0_6 a0_7 l0_8).bind fun t283 => (some t283)) else (some false)) else (some false)
set_option maxHeartbeats 8000000 in
set_option maxRecDepth 100000 in
theorem whirligiglaw10_few.calls (A0_0 : Option Addr) (c0_0 : Nat) (l0_0 : List (S25)) (A0_1 : Option Addr) (c0_1 : Nat) (l0_1 : List (S25)) (a0_2 : Int) (a0_3 : Int) (a0_4 : Int) (A0_5 : Option Addr) (c0_5 : Nat) (l0_5 : List Int) (A0_6 : Option Addr) (c0_6 : Nat) (l0_6 : List (S102)) (a0_7 : Int) (A0_8 : Option Addr) (c0_8 : Nat) (l0_8 : List Int) (r : Bool) (w : World) (hr0_0 : Kd.C k25 w A0_0 l0_0.length l0_0) (hc0_0 : l0_0.length ≤ c0_0) (hr0_1 : Kd.C k25 w A0_1 l0_1.length l0_1) (hc0_1 : l0_1.length ≤ c0_1) (hr0_5 : Kd.C (Kd.int .i64) w A0_5 l0_5.length l0_5) (hc0_5 : l0_5.length ≤ c0_5) (hr0_6 : Kd.C k102 w A0_6 l0_6.length l0_6) (hc0_6 : l0_6.length ≤ c0_6) (hr0_8 : Kd.C (Kd.int .i64) w A0_8 l0_8.length l0_8) (hc0_8 : l0_8.length ≤ c0_8) (h : whirligiglaw10_few.f l0_0 l0_1 a0_2 a0_3 a0_4 l0_5 l0_6 a0_7 l0_8 = some r) :
    Calls Try.prog 15 #[.agg #[.slice A0_0 l0_0.length c0_0, .slice A0_1 l0_1.length c0_1, .int .i64 a0_2, .int .i64 a0_3, .int .i64 a0_4, .slice A0_5 l0_5.length c0_5, .slice A0_6 l0_6.length c0_6, .int .i64 a0_7, .slice A0_8 l0_8.length c0_8]] w fun e w' => e = .returned (.bool r) ∧ Below w.heap.size w w' := by
  have hu43 := Try.underlying43
  have hu41 := Try.underlying41
  have HR0_0 := Aside0.mk hr0_0
  have HC0_0 := Aside0.mk hc0_0
  clear hr0_0 hc0_0
  have HR0_1 := Aside0.mk hr0_1
  have HC0_1 := Aside0.mk hc0_1
  clear hr0_1 hc0_1
  have HR0_5 := Aside0.mk hr0_5
  have HC0_5 := Aside0.mk hc0_5
  clear hr0_5 hc0_5
  have HR0_6 := Aside0.mk hr0_6
  have HC0_6 := Aside0.mk hc0_6
  clear hr0_6 hc0_6
  have HR0_8 := Aside0.mk hr0_8
  have HC0_8 := Aside0.mk hc0_8
  clear hr0_8 hc0_8
  have HB := Aside0.mk (Below.refl w.heap.size w)
  have H : (if (l0_0.length : Int) ≤ 100 then (if (l0_1.length : Int) ≤ 100 then ((whirligigref09_Few.f a0_2 a0_3 a0_4 l0_5 l0_6 a0_7 l0_8).bind fun t283 => (some t283)) else (some false)) else (some false)) = some r := h
  clear h
  by_cases c2 : (l0_0.length : Int) ≤ 100
  · rw [if_pos c2] at H
    have c2b0 : decide ((l0_0.length : Int) ≤ 100) = true := decide_eq_true c2
    have c2b1 : decide (l0_0.length ≤ 100) = true := decide_eq_true (by omega)
    clear c2
    by_cases c3 : (l0_1.length : Int) ≤ 100
    · rw [if_pos c3] at H
      have c3b0 : decide ((l0_1.length : Int) ≤ 100) = true := decide_eq_true c3
      have c3b1 : decide (l0_1.length ≤ 100) = true := decide_eq_true (by omega)
      clear c3
      replace H := Option.bind_eq_some_iff.mp H
      obtain ⟨t283, A40, H⟩ := H
      replace H : (some t283) = some r := H
      have A4 := Aside0.mk A40
      clear A40
      obtain rfl := Option.some.inj H
      go_enter Try.func15, Try.ntmps15
      go_wp2_with (first | ((with_reducible refine gate_dst (N := 1) rfl ?_); (try (refine gate_guard (by rfl) ?_; dsimp only)); refine box_event ?hg (N := 1) ?hd (cs := #[.slice A0_0 l0_0.length c0_0, .slice A0_1 l0_1.length c0_1, .int .i64 a0_2, .int .i64 a0_3, .int .i64 a0_4, .slice A0_5 l0_5.length c0_5, .slice A0_6 l0_6.length c0_6, .int .i64 a0_7, .slice A0_8 l0_8.length c0_8]) (t := 43) ?hr ?_; (case hd => rfl); (case hg => rfl); (case hr => first | (go_simp; done) | (go_simp; rfl)); intro gb282 hg w5 hbox hb; have n0_ := Aside0.mk (below_step (by repeat (first | (with_reducible first | exact HB.out | apply below_alloc | apply pw_below_drewN | apply below_drew1) | exact HB.out)) hb); have n1_ := Aside0.mk (hbox); have n2_ := Aside0.mk ((by rw [hg]; exact (below_size (by repeat (first | (with_reducible first | exact HB.out | apply below_alloc | apply pw_below_drewN | apply below_drew1) | exact HB.out))) : w.heap.size ≤ gb282)); have n3_ := Aside0.mk ((by rw [hg]; exact (below_size (by repeat (first | (with_reducible first | exact HB.out | apply below_alloc | apply pw_below_drewN | apply below_drew1) | exact HB.out))) : w.heap.size ≤ gb282)); clear HB; have HB := n0_; have BK282 := n1_; have GW282 := n2_; have GE282 := n3_; clear n0_ n1_ n2_ n3_; clear hb hbox hg; have hcz6_0 : w5.cell? ⟨gb282, 0, none⟩ = some (.slice A0_0 l0_0.length c0_0) := (blk_cell BK282.out 0).trans rfl; have hcz6_1 : w5.cell? ⟨gb282, 1, none⟩ = some (.slice A0_1 l0_1.length c0_1) := (blk_cell BK282.out 1).trans rfl; have hcz6_2 : w5.cell? ⟨gb282, 2, none⟩ = some (.int .i64 a0_2) := (blk_cell BK282.out 2).trans rfl; have hcz6_3 : w5.cell? ⟨gb282, 3, none⟩ = some (.int .i64 a0_3) := (blk_cell BK282.out 3).trans rfl; have hcz6_4 : w5.cell? ⟨gb282, 4, none⟩ = some (.int .i64 a0_4) := (blk_cell BK282.out 4).trans rfl; have hcz6_5 : w5.cell? ⟨gb282, 5, none⟩ = some (.slice A0_5 l0_5.length c0_5) := (blk_cell BK282.out 5).trans rfl; have hcz6_6 : w5.cell? ⟨gb282, 6, none⟩ = some (.slice A0_6 l0_6.length c0_6) := (blk_cell BK282.out 6).trans rfl; have hcz6_7 : w5.cell? ⟨gb282, 7, none⟩ = some (.int .i64 a0_7) := (blk_cell BK282.out 7).trans rfl; have hcz6_8 : w5.cell? ⟨gb282, 8, none⟩ = some (.slice A0_8 l0_8.length c0_8) := (blk_cell BK282.out 8).trans rfl; have hfz6_0 := blk_frozen BK282.out 0; have hfz6_1 := blk_frozen BK282.out 1; have hfz6_2 := blk_frozen BK282.out 2; have hfz6_3 := blk_frozen BK282.out 3; have hfz6_4 := blk_frozen BK282.out 4; have hfz6_5 := blk_frozen BK282.out 5; have hfz6_6 := blk_frozen BK282.out 6; have hfz6_7 := blk_frozen BK282.out 7; have hfz6_8 := blk_frozen BK282.out 8) | (go_at_call 31; (with_reducible refine (whirligigref09_Few.calls a0_2 a0_3 a0_4 _ _ l0_5 _ _ l0_6 a0_7 _ _ l0_8 t283 _ ?side1 ?side2 ?side3 ?side4 ?side5 ?side6 A4.out).mono ?_); (case side1 => repeat (first | exact (Kd.C_below HR0_5.out HB.out) | (with_reducible refine Kd.C_alloc ?_ _) | (with_reducible refine Kd.C_drewN ?_ _) | (with_reducible refine Kd.C_drew ?_))); (case side2 => exact HC0_5.out); (case side3 => repeat (first | exact (Kd.C_below HR0_6.out HB.out) | (with_reducible refine Kd.C_alloc ?_ _) | (with_reducible refine Kd.C_drewN ?_ _) | (with_reducible refine Kd.C_drew ?_))); (case side4 => exact HC0_6.out); (case side5 => repeat (first | exact (Kd.C_below HR0_8.out HB.out) | (with_reducible refine Kd.C_alloc ?_ _) | (with_reducible refine Kd.C_drewN ?_ _) | (with_reducible refine Kd.C_drew ?_))); (case side6 => exact HC0_8.out); rintro e w7 ⟨rfl, hb⟩; have n0_ := Aside0.mk (blk_below (g := gb282) (o := .cells #[.slice A0_0 l0_0.length c0_0, .slice A0_1 l0_1.length c0_1, .int .i64 a0_2, .int .i64 a0_3, .int .i64 a0_4, .slice A0_5 l0_5.length c0_5, .slice A0_6 l0_6.length c0_6, .int .i64 a0_7, .slice A0_8 l0_8.length c0_8] 43 (0, 0)) (by (with_reducible repeat (first | refine blk_drewN ?_ _ | refine blk_drew ?_ | refine blk_alloc ?_ _)); exact BK282.out) hb); have n1_ := Aside0.mk (below_step (by repeat (first | (with_reducible first | exact HB.out | apply below_alloc | apply pw_below_drewN | apply below_drew1 | refine below_set ?_ GE282.out) | exact HB.out)) hb); clear BK282; clear HB; have BK282 := n0_; have HB := n1_; clear n0_ n1_; (try clear hb); (try clear hb2); (try clear hk); (try clear hi)))
      go_ret
      exact ⟨by first | rfl | (simp [errW_none, errW_some] <;> rfl) | (simp [*, errW_none, errW_some] <;> rfl), by repeat (first | (with_reducible first | exact HB.out | apply below_alloc | apply pw_below_drewN | apply below_drew1 | refine below_set ?_ GE282.out) | exact HB.out)⟩
    · rw [if_neg c3] at H
      have c3b0 : decide ((l0_1.length : Int) ≤ 100) = false := decide_eq_false c3
      have c3b1 : decide (l0_1.length ≤ 100) = false := decide_eq_false (by omega)
      clear c3
      obtain rfl := Option.some.inj H
      go_enter Try.func15, Try.ntmps15
      go_wp2_with (first | ((with_reducible refine gate_dst (N := 1) rfl ?_); (try (refine gate_guard (by rfl) ?_; dsimp only)); refine box_event ?hg (N := 1) ?hd (cs := #[.slice A0_0 l0_0.length c0_0, .slice A0_1 l0_1.length c0_1, .int .i64 a0_2, .int .i64 a0_3, .int .i64 a0_4, .slice A0_5 l0_5.length c0_5, .slice A0_6 l0_6.length c0_6, .int .i64 a0_7, .slice A0_8 l0_8.length c0_8]) (t := 43) ?hr ?_; (case hd => rfl); (case hg => rfl); (case hr => first | (go_simp; done) | (go_simp; rfl)); intro gb282 hg w8 hbox hb; have n0_ := Aside0.mk (below_step (by repeat (first | (with_reducible first | exact HB.out | apply below_alloc | apply pw_below_drewN | apply below_drew1) | exact HB.out)) hb); have n1_ := Aside0.mk (hbox); have n2_ := Aside0.mk ((by rw [hg]; exact (below_size (by repeat (first | (with_reducible first | exact HB.out | apply below_alloc | apply pw_below_drewN | apply below_drew1) | exact HB.out))) : w.heap.size ≤ gb282)); have n3_ := Aside0.mk ((by rw [hg]; exact (below_size (by repeat (first | (with_reducible first | exact HB.out | apply below_alloc | apply pw_below_drewN | apply below_drew1) | exact HB.out))) : w.heap.size ≤ gb282)); clear HB; have HB := n0_; have BK282 := n1_; have GW282 := n2_; have GE282 := n3_; clear n0_ n1_ n2_ n3_; clear hb hbox hg; have hcz9_0 : w8.cell? ⟨gb282, 0, none⟩ = some (.slice A0_0 l0_0.length c0_0) := (blk_cell BK282.out 0).trans rfl; have hcz9_1 : w8.cell? ⟨gb282, 1, none⟩ = some (.slice A0_1 l0_1.length c0_1) := (blk_cell BK282.out 1).trans rfl; have hcz9_2 : w8.cell? ⟨gb282, 2, none⟩ = some (.int .i64 a0_2) := (blk_cell BK282.out 2).trans rfl; have hcz9_3 : w8.cell? ⟨gb282, 3, none⟩ = some (.int .i64 a0_3) := (blk_cell BK282.out 3).trans rfl; have hcz9_4 : w8.cell? ⟨gb282, 4, none⟩ = some (.int .i64 a0_4) := (blk_cell BK282.out 4).trans rfl; have hcz9_5 : w8.cell? ⟨gb282, 5, none⟩ = some (.slice A0_5 l0_5.length c0_5) := (blk_cell BK282.out 5).trans rfl; have hcz9_6 : w8.cell? ⟨gb282, 6, none⟩ = some (.slice A0_6 l0_6.length c0_6) := (blk_cell BK282.out 6).trans rfl; have hcz9_7 : w8.cell? ⟨gb282, 7, none⟩ = some (.int .i64 a0_7) := (blk_cell BK282.out 7).trans rfl; have hcz9_8 : w8.cell? ⟨gb282, 8, none⟩ = some (.slice A0_8 l0_8.length c0_8) := (blk_cell BK282.out 8).trans rfl; have hfz9_0 := blk_frozen BK282.out 0; have hfz9_1 := blk_frozen BK282.out 1; have hfz9_2 := blk_frozen BK282.out 2; have hfz9_3 := blk_frozen BK282.out 3; have hfz9_4 := blk_frozen BK282.out 4; have hfz9_5 := blk_frozen BK282.out 5; have hfz9_6 := blk_frozen BK282.out 6; have hfz9_7 := blk_frozen BK282.out 7; have hfz9_8 := blk_frozen BK282.out 8))
      go_ret
      exact ⟨by first | rfl | (simp [errW_none, errW_some] <;> rfl) | (simp [*, errW_none, errW_some] <;> rfl), by repeat (first | (with_reducible first | exact HB.out | apply below_alloc | apply pw_below_drewN | apply below_drew1 | refine below_set ?_ GE282.out) | exact HB.out)⟩
  · rw [if_neg c2] at H
    have c2b0 : decide ((l0_0.length : Int) ≤ 100) = false := decide_eq_false c2
    have c2b1 : decide (l0_0.length ≤ 100) = false := decide_eq_false (by omega)
    clear c2
    obtain rfl := Option.some.inj H
    go_enter Try.func15, Try.ntmps15
    go_wp2_with (first | ((with_reducible refine gate_dst (N := 1) rfl ?_); (try (refine gate_guard (by rfl) ?_; dsimp only)); refine box_event ?hg (N := 1) ?hd (cs := #[.slice A0_0 l0_0.length c0_0, .slice A0_1 l0_1.length c0_1, .int .i64 a0_2, .int .i64 a0_3, .int .i64 a0_4, .slice A0_5 l0_5.length c0_5, .slice A0_6 l0_6.length c0_6, .int .i64 a0_7, .slice A0_8 l0_8.length c0_8]) (t := 43) ?hr ?_; (case hd => rfl); (case hg => rfl); (case hr => first | (go_simp; done) | (go_simp; rfl)); intro gb282 hg w10 hbox hb; have n0_ := Aside0.mk (below_step (by repeat (first | (with_reducible first | exact HB.out | apply below_alloc | apply pw_below_drewN | apply below_drew1) | exact HB.out)) hb); have n1_ := Aside0.mk (hbox); have n2_ := Aside0.mk ((by rw [hg]; exact (below_size (by repeat (first | (with_reducible first | exact HB.out | apply below_alloc | apply pw_below_drewN | apply below_drew1) | exact HB.out))) : w.heap.size ≤ gb282)); have n3_ := Aside0.mk ((by rw [hg]; exact (below_size (by repeat (first | (with_reducible first | exact HB.out | apply below_alloc | apply pw_below_drewN | apply below_drew1) | exact HB.out))) : w.heap.size ≤ gb282)); clear HB; have HB := n0_; have BK282 := n1_; have GW282 := n2_; have GE282 := n3_; clear n0_ n1_ n2_ n3_; clear hb hbox hg; have hcz11_0 : w10.cell? ⟨gb282, 0, none⟩ = some (.slice A0_0 l0_0.length c0_0) := (blk_cell BK282.out 0).trans rfl; have hcz11_1 : w10.cell? ⟨gb282, 1, none⟩ = some (.slice A0_1 l0_1.length c0_1) := (blk_cell BK282.out 1).trans rfl; have hcz11_2 : w10.cell? ⟨gb282, 2, none⟩ = some (.int .i64 a0_2) := (blk_cell BK282.out 2).trans rfl; have hcz11_3 : w10.cell? ⟨gb282, 3, none⟩ = some (.int .i64 a0_3) := (blk_cell BK282.out 3).trans rfl; have hcz11_4 : w10.cell? ⟨gb282, 4, none⟩ = some (.int .i64 a0_4) := (blk_cell BK282.out 4).trans rfl; have hcz11_5 : w10.cell? ⟨gb282, 5, none⟩ = some (.slice A0_5 l0_5.length c0_5) := (blk_cell BK282.out 5).trans rfl; have hcz11_6 : w10.cell? ⟨gb282, 6, none⟩ = some (.slice A0_6 l0_6.length c0_6) := (blk_cell BK282.out 6).trans rfl; have hcz11_7 : w10.cell? ⟨gb282, 7, none⟩ = some (.int .i64 a0_7) := (blk_cell BK282.out 7).trans rfl; have hcz11_8 : w10.cell? ⟨gb282, 8, none⟩ = some (.slice A0_8 l0_8.length c0_8) := (blk_cell BK282.out 8).trans rfl; have hfz11_0 := blk_frozen BK282.out 0; have hfz11_1 := blk_frozen BK282.out 1; have hfz11_2 := blk_frozen BK282.out 2; have hfz11_3 := blk_frozen BK282.out 3; have hfz11_4 := blk_frozen BK282.out 4; have hfz11_5 := blk_frozen BK282.out 5; have hfz11_6 := blk_frozen BK282.out 6; have hfz11_7 := blk_frozen BK282.out 7; have hfz11_8 := blk_frozen BK282.out 8))
    go_ret
    exact ⟨by first | rfl | (simp [errW_none, errW_some] <;> rfl) | (simp [*, errW_none, errW_some] <;> rfl), by repeat (first | (with_reducible first | exact HB.out | apply below_alloc | apply pw_below_drewN | apply below_drew1 | refine below_set ?_ GE282.out) | exact HB.out)⟩

def whirligiglaw10_lives.f (k : Nat)  : Option (Bool) := (wire_Alive.f).bind fun t284 => (if (t284.length : Int) = 19 then (if 18 < (t284.length : Int) then (if (rd t284 18) = 4 then ((wire_Prefix.f k ([] : List Int) 167772160 8).bind fun t288 => (some ((strOfNums t288).toList == ([8, 10] : List UInt8)))) else (some false)) else (none)) else (some false))
theorem whirligiglaw10_lives.mono : ∀ k, LeO (whirligiglaw10_lives.f k ) (whirligiglaw10_lives.f (k + 1) ) := by
  intro  k
  unfold whirligiglaw10_lives.f
  repeat' first
      | (with_reducible exact wire_Prefix.mono _ _ _ _)
      | (with_reducible exact LeO.refl _)
      | (with_reducible exact LeO.none _)
      | (with_reducible refine LeO.ite ?_ ?_)
      | (with_reducible refine LeO.bind ?_ (fun _ => ?_))
      | exact wire_Prefix.mono _ _ _ _
      | exact LeO.none _
      | refine LeO.ite ?_ ?_
      | refine LeO.bind ?_ (fun _ => ?_)
set_option maxHeartbeats 8000000 in
set_option maxRecDepth 100000 in
theorem whirligiglaw10_lives.calls (k : Nat)  (r : Bool) (w : World) (h : whirligiglaw10_lives.f k  = some r) :
    Calls Try.prog 9 #[] w fun e w' => e = .returned (.bool r) ∧ Below w.heap.size w w' := by
  have hu25 := Try.underlying25
  have HB := Aside0.mk (Below.refl w.heap.size w)
  have H : ((wire_Alive.f).bind fun t284 => (if (t284.length : Int) = 19 then (if 18 < (t284.length : Int) then (if (rd t284 18) = 4 then ((wire_Prefix.f k ([] : List Int) 167772160 8).bind fun t288 => (some ((strOfNums t288).toList == ([8, 10] : List UInt8)))) else (some false)) else (none)) else (some false))) = some r := h
  clear h
  replace H := Option.bind_eq_some_iff.mp H
  obtain ⟨t284, A10, H⟩ := H
  replace H : (if (t284.length : Int) = 19 then (if 18 < (t284.length : Int) then (if (rd t284 18) = 4 then ((wire_Prefix.f k ([] : List Int) 167772160 8).bind fun t288 => (some ((strOfNums t288).toList == ([8, 10] : List UInt8)))) else (some false)) else (none)) else (some false)) = some r := H
  have A1 := Aside0.mk A10
  clear A10
  by_cases c2 : (t284.length : Int) = 19
  · rw [if_pos c2] at H
    have c2b0 : ((t284.length : Int) == 19) = true := beq_iff_eq.mpr c2
    have c2b1 : ((t284.length : Int) != 19) = false := bne_eq_false_iff_eq.mpr c2
    clear c2
    by_cases c3 : 18 < (t284.length : Int)
    · rw [if_pos c3] at H
      have c3b0 : decide (18 < (t284.length : Int)) = true := decide_eq_true c3
      have c3b1 : decide (18 < t284.length) = true := decide_eq_true (by omega)
      clear c3
      by_cases c4 : (rd t284 18) = 4
      · rw [if_pos c4] at H
        have c4b0 : ((rd t284 18) == 4) = true := beq_iff_eq.mpr c4
        have c4b1 : ((rd t284 18) != 4) = false := bne_eq_false_iff_eq.mpr c4
        clear c4
        replace H := Option.bind_eq_some_iff.mp H
        obtain ⟨t288, A50, H⟩ := H
        replace H : (some ((strOfNums t288).toList == ([8, 10] : List UInt8))) = some r := H
        have A5 := Aside0.mk A50
        clear A50
        obtain rfl := Option.some.inj H
        go_enter Try.func9, Try.ntmps9
        go_wp2_with (first | ((with_reducible refine gate_callee (f := 24) rfl ?_); refine goesL_ (some 2) rfl rfl Try.func24 (by kernel_rfl) rfl #[] rfl (by (try simp only [List.map_toArray, List.map_cons, List.map_nil]); first | done | rfl | (simp only [List.length_drop, List.length_take]; rfl)) ?_; (with_reducible refine (wire_Alive.calls  t284 _ A1.out).mono ?_); rintro e w6 ⟨v285, rfl, ho0, hb⟩; refine ⟨_, rfl, ?_⟩; have n0_ := Aside0.mk (Kd.R_lower ho0 (below_size (by repeat (first | (with_reducible first | exact HB.out | apply below_alloc | apply pw_below_drewN | apply below_drew1) | exact HB.out)))); have n1_ := Aside0.mk (below_step (by repeat (first | (with_reducible first | exact HB.out | apply below_alloc | apply pw_below_drewN | apply below_drew1) | exact HB.out)) hb); clear HB; have HO286 := n0_; have HB := n1_; clear n0_ n1_; (try clear hb); (try clear hb2); (try clear hk); (try clear hi); (try clear ho0); obtain ⟨Ao7, co7, eo7⟩ := Kd.R_slice HO286.out; subst eo7; have p287 : 0 ≤ (18 : Int) := (by omega); have q287 : 18 < (t284.length : Int) := of_decide_eq_true (by first | (with_reducible assumption) | assumption); obtain ⟨ad287, e287, hx287_0⟩ := Kd.at_int (Kd.R_reads' HO286.out).2.2 18 p287 q287; (try (injection e287 with e287; replace e287 := e287.symm; subst e287; have e287 : True := trivial)); cases e287; (try simp only [show (18 : Int).toNat = 18 from rfl, Nat.reduceMul, Nat.reduceEqDiff, Go.Addr.add, ↓reduceIte] at hx287_0); have qi287 : (18 < t284.length) = True := eq_true (by omega); (try rw [show ((18 : Int)).toNat = 18 from rfl] at hx287_0); replace p287 := eq_true p287; replace q287 := eq_true q287) | (go_at_call 12; (refine (wire_Prefix.calls k _ _ ([] : List Int) 167772160 8 t288 _ ?side1 ?side2 A5.out).mono ?_); (case side1 => exact Kd.C_nil _ _); (case side2 => exact Nat.le_refl _); rintro e w8 ⟨v289, rfl, ho0, hb⟩; have n0_ := Aside0.mk (Kd.R_elder' (by (with_reducible repeat (first | apply Kd.R_alloc | apply Kd.R_drewN | apply Kd.R_drew)); exact HO286.out) (Kd.R_base ho0) hb); have n1_ := Aside0.mk (Kd.R_lower (Kd.R_new' ho0 (Kd.R_lt (by (with_reducible repeat (first | apply Kd.R_alloc | apply Kd.R_drewN | apply Kd.R_drew)); exact HO286.out))) (below_size (by repeat (first | (with_reducible first | exact HB.out | apply below_alloc | apply pw_below_drewN | apply below_drew1) | exact HB.out)))); have n2_ := Aside0.mk (below_step (by repeat (first | (with_reducible first | exact HB.out | apply below_alloc | apply pw_below_drewN | apply below_drew1) | exact HB.out)) hb); clear HO286; clear HB; have HO286 := n0_; have HO290 := n1_; have HB := n2_; clear n0_ n1_ n2_; (try clear hb); (try clear hb2); (try clear hk); (try clear hi); (try clear ho0); have hcv9 := own_string (P := Try.prog) Try.underlying22 Try.underlying5 Try.underlying9 (Kd.own_of_R HO290.out)))
        go_ret
        exact ⟨by first | rfl | (simp [errW_none, errW_some] <;> rfl) | (simp [*, errW_none, errW_some] <;> rfl), by repeat (first | (with_reducible first | exact HB.out | apply below_alloc | apply pw_below_drewN | apply below_drew1) | exact HB.out)⟩
      · rw [if_neg c4] at H
        have c4b0 : ((rd t284 18) == 4) = false := beq_eq_false_iff_ne.mpr c4
        have c4b1 : ((rd t284 18) != 4) = true := bne_iff_ne.mpr c4
        obtain rfl := Option.some.inj H
        go_enter Try.func9, Try.ntmps9
        go_wp2_with (first | ((with_reducible refine gate_callee (f := 24) rfl ?_); refine goesL_ (some 2) rfl rfl Try.func24 (by kernel_rfl) rfl #[] rfl (by (try simp only [List.map_toArray, List.map_cons, List.map_nil]); first | done | rfl | (simp only [List.length_drop, List.length_take]; rfl)) ?_; (with_reducible refine (wire_Alive.calls  t284 _ A1.out).mono ?_); rintro e w10 ⟨v285, rfl, ho0, hb⟩; refine ⟨_, rfl, ?_⟩; have n0_ := Aside0.mk (Kd.R_lower ho0 (below_size (by repeat (first | (with_reducible first | exact HB.out | apply below_alloc | apply pw_below_drewN | apply below_drew1) | exact HB.out)))); have n1_ := Aside0.mk (below_step (by repeat (first | (with_reducible first | exact HB.out | apply below_alloc | apply pw_below_drewN | apply below_drew1) | exact HB.out)) hb); clear HB; have HO286 := n0_; have HB := n1_; clear n0_ n1_; (try clear hb); (try clear hb2); (try clear hk); (try clear hi); (try clear ho0); obtain ⟨Ao11, co11, eo11⟩ := Kd.R_slice HO286.out; subst eo11; have p287 : 0 ≤ (18 : Int) := (by omega); have q287 : 18 < (t284.length : Int) := of_decide_eq_true (by first | (with_reducible assumption) | assumption); obtain ⟨ad287, e287, hx287_0⟩ := Kd.at_int (Kd.R_reads' HO286.out).2.2 18 p287 q287; (try (injection e287 with e287; replace e287 := e287.symm; subst e287; have e287 : True := trivial)); cases e287; (try simp only [show (18 : Int).toNat = 18 from rfl, Nat.reduceMul, Nat.reduceEqDiff, Go.Addr.add, ↓reduceIte] at hx287_0); have qi287 : (18 < t284.length) = True := eq_true (by omega); (try rw [show ((18 : Int)).toNat = 18 from rfl] at hx287_0); replace p287 := eq_true p287; replace q287 := eq_true q287))
        go_ret
        exact ⟨by first | rfl | (simp [errW_none, errW_some] <;> rfl) | (simp [*, errW_none, errW_some] <;> rfl), by repeat (first | (with_reducible first | exact HB.out | apply below_alloc | apply pw_below_drewN | apply below_drew1) | exact HB.out)⟩
    · rw [if_neg c3] at H
      exact absurd H (by simp)
  · rw [if_neg c2] at H
    have c2b0 : ((t284.length : Int) == 19) = false := beq_eq_false_iff_ne.mpr c2
    have c2b1 : ((t284.length : Int) != 19) = true := bne_iff_ne.mpr c2
    obtain rfl := Option.some.inj H
    go_enter Try.func9, Try.ntmps9
    go_wp2_with (first | ((with_reducible refine gate_callee (f := 24) rfl ?_); refine goesL_ (some 2) rfl rfl Try.func24 (by kernel_rfl) rfl #[] rfl (by (try simp only [List.map_toArray, List.map_cons, List.map_nil]); first | done | rfl | (simp only [List.length_drop, List.length_take]; rfl)) ?_; (with_reducible refine (wire_Alive.calls  t284 _ A1.out).mono ?_); rintro e w12 ⟨v285, rfl, ho0, hb⟩; refine ⟨_, rfl, ?_⟩; have n0_ := Aside0.mk (Kd.R_lower ho0 (below_size (by repeat (first | (with_reducible first | exact HB.out | apply below_alloc | apply pw_below_drewN | apply below_drew1) | exact HB.out)))); have n1_ := Aside0.mk (below_step (by repeat (first | (with_reducible first | exact HB.out | apply below_alloc | apply pw_below_drewN | apply below_drew1) | exact HB.out)) hb); clear HB; have HO286 := n0_; have HB := n1_; clear n0_ n1_; (try clear hb); (try clear hb2); (try clear hk); (try clear hi); (try clear ho0); obtain ⟨Ao13, co13, eo13⟩ := Kd.R_slice HO286.out; subst eo13))
    go_ret
    exact ⟨by first | rfl | (simp [errW_none, errW_some] <;> rfl) | (simp [*, errW_none, errW_some] <;> rfl), by repeat (first | (with_reducible first | exact HB.out | apply below_alloc | apply pw_below_drewN | apply below_drew1) | exact HB.out)⟩

end Go.Proofs.Ytjmpojfpbhihpaa.P

end
section
set_option linter.unusedVariables false
set_option linter.unusedSimpArgs false
namespace Go.Proofs.Ytjmpojfpbhihpaa.P
open Go.RowKit Go.Proofs.YtjmpojfpbhihpaaW.PrintWords Go.Proofs.YtjmpojfpbhihpaaW.PrintLast Go.Proofs.YtjmpojfpbhihpaaW.PrintMore

theorem lives_ev : Evt (fun k => whirligiglaw10_lives.f k) true := by
  refine Evt.of_mono (K := 12) (fun k => whirligiglaw10_lives.mono k) ?_
  decide +kernel
/-- bytes -/
def U8 (B : List Int) : Prop := ∀ x, x ∈ B → 0 ≤ x ∧ x ≤ 255
theorem U8.drop {B : List Int} (h : U8 B) (n : Nat) : U8 (B.drop n) := fun x hx => h x (List.mem_of_mem_drop hx)
theorem U8.take {B : List Int} (h : U8 B) (n : Nat) : U8 (B.take n) := fun x hx => h x (List.mem_of_mem_take hx)
theorem U8.at {B : List Int} (h : U8 B) (i : Nat) : 0 ≤ B.getD i 0 ∧ B.getD i 0 ≤ 255 := by
  rw [List.getD_eq_getElem?_getD]
  cases hc : B[i]? with
  | none => exact ⟨by simp, by simp⟩
  | some x => exact h x (List.mem_of_getElem? hc)
theorem rd_drop (B : List Int) (at_ j : Nat) : rd B ((at_ : Int) + (j : Int)) = (B.drop at_).getD j 0 := by
  unfold rd
  rw [show ((at_ : Int) + (j : Int)).toNat = at_ + j by omega, List.getD_eq_getElem?_getD, List.getD_eq_getElem?_getD, List.getElem?_drop]
end Go.Proofs.Ytjmpojfpbhihpaa.P

end
section
set_option linter.unusedVariables false
set_option linter.unusedSimpArgs false
namespace Go.Proofs.Ytjmpojfpbhihpaa.P
open Go.RowKit Go.Proofs.YtjmpojfpbhihpaaW.PrintWords Go.Proofs.YtjmpojfpbhihpaaW.PrintLast Go.Proofs.YtjmpojfpbhihpaaW.PrintMore

def szD (D : List Int) : Int := D.getD 16 0 * 256 + D.getD 17 0
def cntD (D : List Int) : Int := ((Lib.countByte (Lib.bytesOf (D.take 16)) (255 : Int).toNat.toUInt8 : Nat) : Int)
def badD (D : List Int) : Bool := decide (cntD D < 16) || decide (szD D < 19) || decide (szD D > 4096) || decide (D.getD 18 0 < 1) || decide (D.getD 18 0 > 4)
theorem or64 (x y : Int) (hx : 0 ≤ x ∧ x ≤ 255) (hy : 0 ≤ y ∧ y ≤ 255) : Go.bits .or .i64 (wrap64 (wrap64 x * 256)) (wrap64 y) = x * 256 + y := by
  rw [wrap64_in x (by omega) (by omega), wrap64_in (x * 256) (by omega) (by omega), wrap64_in y (by omega) (by omega)]
  exact bits_join .i64 63 (by decide) (fun n h0 h1 => IntWalk.i64_in n (by omega)) 8 (x * 256) y (by omega) (by omega) (by omega) (by omega) (by omega) (by omega)
theorem mid_drop (B : List Int) (at_ j : Nat) : (B.take (at_ + j)).drop at_ = (B.drop at_).take j := by
  rw [List.drop_take, show at_ + j - at_ = j by omega]
theorem sp_end (B : List Int) (hB : B.length ≤ 100000) (acc : List (List Int)) (at_ : Nat) (hle : at_ ≤ B.length) (h : (B.drop at_).length < 19) : Evt (fun k => wire_Split.l0 k B acc (at_ : Int)) (acc, (at_ : Int), 0) := by
  rw [List.length_drop] at h
  refine Evt.step ?_
  simp only [wire_Split.l0]
  rw [wrap64_in ((B.length : Int) - (at_ : Int)) (by omega) (by omega)]
  exact Evt.ite_neg (by omega) (Evt.pure _)
theorem sp_go (B : List Int) (hB : B.length ≤ 100000) (hu : U8 B) (acc : List (List Int)) (hacc : acc.length ≤ 100000) (at_ : Nat) (hle : at_ ≤ B.length) (h : 19 ≤ (B.drop at_).length) (R : List (List Int) × Int × Int)
    (h1 : badD (B.drop at_) = true → R = (acc, (at_ : Int), 4)) (h2 : badD (B.drop at_) = false → ((B.drop at_).length : Int) < szD (B.drop at_) → R = (acc, (at_ : Int), 0))
    (h3 : badD (B.drop at_) = false → szD (B.drop at_) ≤ ((B.drop at_).length : Int) → 19 ≤ szD (B.drop at_) → szD (B.drop at_) ≤ 4096 → Evt (fun k => wire_Split.l0 k B (acc ++ [(B.drop at_).take (szD (B.drop at_)).toNat]) ((at_ + (szD (B.drop at_)).toNat : Nat) : Int)) R) :
    Evt (fun k => wire_Split.l0 k B acc (at_ : Int)) R := by
  have hD : (B.drop at_).length = B.length - at_ := List.length_drop
  have hU := hu.drop at_
  have u16 := hU.at 16
  have u17 := hU.at 17
  have J : ∀ b : Bool, b = badD (B.drop at_) → Evt (fun k => wire_Split.j1 k B acc (at_ : Int) (szD (B.drop at_)) b) R := by
    intro b hb
    refine Evt.step ?_
    simp only [wire_Split.j1]
    cases b with
    | true => rw [h1 hb.symm]; exact Evt.ite_pos rfl (Evt.pure _)
    | false =>
      refine Evt.ite_neg (by simp) ?_
      have hb' : (decide (cntD (B.drop at_) < 16) || decide (szD (B.drop at_) < 19) || decide (szD (B.drop at_) > 4096) || decide ((B.drop at_).getD 18 0 < 1) || decide ((B.drop at_).getD 18 0 > 4)) = false := hb.symm
      simp only [Bool.or_eq_false_iff, decide_eq_false_iff_not] at hb'
      have s0 : 19 ≤ szD (B.drop at_) := by omega
      have s1 : szD (B.drop at_) ≤ 4096 := by omega
      rw [wrap64_in ((B.length : Int) - (at_ : Int)) (by omega) (by omega)]
      by_cases hl : szD (B.drop at_) > (B.length : Int) - (at_ : Int)
      · rw [h2 hb.symm (by omega)]
        exact Evt.ite_pos hl (Evt.pure _)
      · refine Evt.ite_neg hl (Evt.ite_pos (by omega) ?_)
        rw [wrap64_in ((at_ : Int) + szD (B.drop at_)) (by omega) (by omega)]
        refine Evt.ite_pos (by omega) (Evt.ite_pos (by omega) ?_)
        have h4 := h3 hb.symm (by omega) s0 s1
        rw [show ((at_ : Int) + szD (B.drop at_)).toNat = at_ + (szD (B.drop at_)).toNat by omega, Int.toNat_natCast, mid_drop]
        refine Evt.bindc (a := (B.drop at_).take (szD (B.drop at_)).toNat) ?_ (Evt.ite_pos (by omega) ?_)
        · unfold bytes_Clone.f
          rw [if_pos]
          rw [List.length_take]; omega
        · rw [show (at_ : Int) + szD (B.drop at_) = ((at_ + (szD (B.drop at_)).toNat : Nat) : Int) by omega]; exact h4
  have JT : badD (B.drop at_) = true → Evt (fun k => wire_Split.j1 k B acc (at_ : Int) (szD (B.drop at_)) true) R := fun e => J true e.symm
  refine Evt.step ?_
  simp only [wire_Split.l0]
  rw [wrap64_in ((B.length : Int) - (at_ : Int)) (by omega) (by omega), wrap64_in ((at_ : Int) + 16) (by omega) (by omega), wrap64_in ((at_ : Int) + 16 + 1) (by omega) (by omega), wrap64_in ((at_ : Int) + 19) (by omega) (by omega), wrap64_in ((at_ : Int) + 19 - 1) (by omega) (by omega)]
  have e16 : rd B ((at_ : Int) + 16) = (B.drop at_).getD 16 0 := rd_drop B at_ 16
  have e17 : rd B ((at_ : Int) + 16 + 1) = (B.drop at_).getD 17 0 := by rw [show (at_ : Int) + 16 + 1 = (at_ : Int) + ((17 : Nat) : Int) by omega]; exact rd_drop B at_ 17
  have e18 : rd B ((at_ : Int) + 19 - 1) = (B.drop at_).getD 18 0 := by rw [show (at_ : Int) + 19 - 1 = (at_ : Int) + ((18 : Nat) : Int) by omega]; exact rd_drop B at_ 18
  have esz : Go.bits .or .i64 (wrap64 (wrap64 ((B.drop at_).getD 16 0) * 256)) (wrap64 ((B.drop at_).getD 17 0)) = szD (B.drop at_) := or64 _ _ u16 u17
  rw [e16, e17, e18, esz]
  refine Evt.ite_pos (by omega) (Evt.ite_pos (by omega) (Evt.ite_pos (by omega) (Evt.ite_pos (by omega) (Evt.ite_pos (by omega) (Evt.ite_pos (by omega) (Evt.ite_pos (by omega) (Evt.ite_pos (by omega) (Evt.ite_pos (by omega) (Evt.ite_pos (by omega) ?_)))))))))
  rw [show ((at_ : Int) + 16).toNat = at_ + 16 by omega, Int.toNat_natCast, mid_drop]
  refine Evt.bindc (a := cntD (B.drop at_)) ?_ ?_
  · unfold bytes_Count.f
    simp only
    rw [if_pos (by rw [List.length_take]; omega)]; rfl
  · by_cases c1 : cntD (B.drop at_) < 16
    · exact Evt.ite_pos c1 (JT (by unfold badD; rw [decide_eq_true c1]; rfl))
    refine Evt.ite_neg c1 ?_
    by_cases c2 : szD (B.drop at_) < 19
    · exact Evt.ite_pos c2 (JT (by unfold badD; rw [decide_eq_true c2]; simp))
    refine Evt.ite_neg c2 ?_
    by_cases c3 : szD (B.drop at_) > 4096
    · exact Evt.ite_pos c3 (JT (by unfold badD; rw [decide_eq_true c3]; simp))
    refine Evt.ite_neg c3 ?_
    by_cases c4 : (B.drop at_).getD 18 0 < 1
    · exact Evt.ite_pos c4 (JT (by unfold badD; rw [decide_eq_true c4]; simp))
    refine Evt.ite_neg c4 (J _ ?_)
    unfold badD
    rw [decide_eq_false c1, decide_eq_false c2, decide_eq_false c3, decide_eq_false c4]; rfl
end Go.Proofs.Ytjmpojfpbhihpaa.P

end
section
set_option linter.unusedVariables false
set_option linter.unusedSimpArgs false
namespace Go.Proofs.Ytjmpojfpbhihpaa.P
open Go.RowKit Go.Proofs.YtjmpojfpbhihpaaW.PrintWords Go.Proofs.YtjmpojfpbhihpaaW.PrintLast Go.Proofs.YtjmpojfpbhihpaaW.PrintMore

/-- how many addresses a prefix of so many bits has -/
def un (b : Int) : Int := 2 ^ (32 - b).toNat
/-- an address -/
def isA (a : Int) : Prop := 0 ≤ a ∧ a ≤ 4294967295
/-- may a prefix be? -/
def mayB (a b : Int) : Bool := decide (0 ≤ b) && (decide (b ≤ 32) && decide (a % un b = 0))
theorem mayB_iff (a b : Int) : mayB a b = true ↔ 0 ≤ b ∧ b ≤ 32 ∧ a % un b = 0 := by
  unfold mayB; simp
theorem mask_is (b : Int) (h0 : 0 ≤ b) (h1 : b ≤ 32) : addr_mask.f b = some (4294967296 - un b) := by
  unfold addr_mask.f
  by_cases h : b = 0
  · subst h; rfl
  · rw [if_neg h, wrap64_in _ (by omega) (by omega), if_pos (by omega)]
    have := shl_all (32 - b).toNat (by omega)
    rw [show (((32 - b).toNat : Nat) : Int) = 32 - b by omega] at this
    rw [this]; rfl
theorem may_is (a b : Int) (ha : isA a) : addr_May.f a b = some (mayB a b) := by
  unfold addr_May.f mayB
  by_cases h0 : 0 ≤ b
  · rw [if_pos h0]
    by_cases h1 : b ≤ 32
    · rw [if_pos h1, mask_is b h0 h1, Option.bind_some]
      have := andNot_mask a (32 - b).toNat ha.1 (by have := ha.2; omega) (by omega)
      unfold un
      rw [this]
      simp [h0, h1]
      rfl
    · rw [if_neg h1]; simp [h0, h1]
  · rw [if_neg h0]; simp [h0]
end Go.Proofs.Ytjmpojfpbhihpaa.P

end
section
namespace Go.Proofs.Ytjmpojfpbhihpaa.P
open Go.RowKit Go.Proofs.YtjmpojfpbhihpaaW.PrintWords Go.Proofs.YtjmpojfpbhihpaaW.PrintLast Go.Proofs.YtjmpojfpbhihpaaW.PrintMore
set_option linter.unusedVariables false
set_option linter.unusedSimpArgs false

instance : DecidableEq S102 := fun a b => if h : a.f0 = b.f0 ∧ a.f1 = b.f1 then isTrue (by cases a; cases b; simp_all) else isFalse (by rintro rfl; exact h ⟨rfl, rfl⟩)
/-- an order told by numbers -/
def Ord {α : Type} (c : α → α → Int) : Prop := (∀ a b, c b a = - c a b) ∧ (∀ a b d, c a b ≤ 0 → c b d ≤ 0 → c a d ≤ 0)
theorem Ord.zero {α : Type} {c : α → α → Int} (h : Ord c) {a b d : α} (h1 : c a b ≤ 0) (h2 : c b d ≤ 0) (h3 : c a d = 0) : c a b = 0 ∧ c b d = 0 := by
  have e1 := h.1 a d
  have e2 := h.1 a b
  have e3 := h.1 b d
  have t1 := h.2 b d a h2 (by omega)
  have t2 := h.2 d a b (by omega) h1
  constructor <;> omega
end Go.Proofs.Ytjmpojfpbhihpaa.P

end
section
namespace Go.Proofs.Ytjmpojfpbhihpaa.P
open Go.RowKit Go.Proofs.YtjmpojfpbhihpaaW.PrintWords Go.Proofs.YtjmpojfpbhihpaaW.PrintLast Go.Proofs.YtjmpojfpbhihpaaW.PrintMore
set_option linter.unusedVariables false
set_option linter.unusedSimpArgs false

theorem pat {α : Type} {l : List α} {i : Nat} (h : i < l.length) : ∃ x, x ∈ l ∧ l[i]? = some x ∧ l.drop i = x :: l.drop (i + 1) :=
  ⟨l[i], List.getElem_mem h, List.getElem?_eq_getElem h, List.drop_eq_getElem_cons h⟩
theorem rd_at {l : List Int} {i : Nat} {x : Int} (h : l[i]? = some x) : rd l (i : Int) = x := by
  unfold rd
  rw [Int.toNat_natCast, List.getD_eq_getElem?_getD, h]; rfl
theorem rdC_at {l : List S102} {i : Nat} {x : S102} (h : l[i]? = some x) : rd_T102 l (i : Int) = x := by
  unfold rd_T102
  rw [Int.toNat_natCast, List.getD_eq_getElem?_getD, h]; rfl

def mayCB (a b : Int) : Bool := decide (1 ≤ a) && (decide (a ≤ 65535) && (decide (0 ≤ b) && decide (b ≤ 65535)))
theorem commMay_is (a b : Int) : comm_May.f a b = some (mayCB a b) := by
  unfold comm_May.f mayCB
  by_cases h1 : a ≥ 1
  · rw [if_pos h1]
    by_cases h2 : a ≤ 65535
    · rw [if_pos h2]
      by_cases h3 : b ≥ 0
      · rw [if_pos h3]; simp [h1, h2, h3]
      · rw [if_neg h3]; simp [h3]
    · rw [if_neg h2]; simp [h2]
  · rw [if_neg h1]; simp [h1]
def stepsB (p : Option S102) : List S102 → Bool
  | [] => true
  | x :: l => mayCB x.f0 x.f1 && ((match p with | none => true | some q => decide (ordC q x < 0)) && stepsB (some x) l)
/-- the one ahead of the i-th -/
def prevC (l : List S102) (i : Nat) : Option S102 := if i = 0 then none else l[i - 1]?
theorem prevC_succ (l : List S102) (i : Nat) : prevC l (i + 1) = l[i]? := by unfold prevC; rw [if_neg (by omega)]; rfl
def setB (l : List S102) : Bool := decide (l.length ≤ 8) && stepsB none l
theorem commOrder_ev (x y : S102) : Evt (fun k => comm_order.f k x.f0 x.f1 y.f0 y.f1) (ordC x y) := Evt.of_mono (fun k => comm_order.mono _ _ _ _ k) (ordC_is x y)
theorem commSetL_ev : ∀ (d : Nat) (l : List S102) (i : Nat), l.length ≤ 1000000 → l.length - i = d → i ≤ l.length → Evt (fun k => comm_Set.l0 k l l (l.length : Int) (i : Int)) (stepsB (prevC l i) (l.drop i)) := by
  intro d
  induction d with
  | zero =>
    intro l i hl hd hi
    refine Evt.step ?_
    simp only [comm_Set.l0]
    refine Evt.ite_neg (by omega) (Evt.of fun k => ?_)
    rw [List.drop_eq_nil_of_le (by omega)]; rfl
  | succ d ih =>
    intro l i hl hd hi
    refine Evt.step ?_
    simp only [comm_Set.l0]
    obtain ⟨x, hx, he, hdr⟩ := pat (l := l) (i := i) (by omega)
    refine Evt.ite_pos (by omega) (Evt.ite_pos (by omega) (Evt.ite_pos (by omega) ?_))
    have hn := ih l (i + 1) hl (by omega) (by omega)
    rw [prevC_succ, he] at hn
    rw [rdC_at he, hdr]
    refine Evt.bindc (commMay_is _ _) ?_
    simp only [stepsB]
    by_cases hb : mayCB x.f0 x.f1 = true
    · refine Evt.ite_pos hb ?_
      rw [hb, Bool.true_and, wrap64_in ((i : Int) + 1) (by omega) (by omega)]
      by_cases h0 : i = 0
      · subst h0
        refine Evt.ite_neg (by simp) ?_
        exact hn
      · obtain ⟨q, hq, hqe, _⟩ := pat (l := l) (i := i - 1) (by omega)
        have hp : prevC l i = some q := by unfold prevC; rw [if_neg h0, hqe]
        rw [hp, wrap64_in ((i : Int) - 1) (by omega) (by omega), show ((i : Int) - 1) = ((i - 1 : Nat) : Int) by omega]
        refine Evt.ite_pos (by omega) (Evt.ite_pos (by omega) (Evt.ite_pos (by omega) ?_))
        rw [rdC_at hqe]
        refine Evt.bind (commOrder_ev q x) ?_
        by_cases hc : ordC q x < 0
        · refine Evt.ite_neg (by omega) ?_
          simp only [hc, decide_true, Bool.true_and]
          exact hn
        · refine Evt.ite_pos (by omega) (Evt.of fun k => ?_)
          simp [hc]
    · refine Evt.ite_neg hb (Evt.of fun k => ?_)
      rw [Bool.eq_false_iff.mpr hb]; rfl
theorem commSet_ev (l : List S102) (hl : l.length ≤ 1000000) : Evt (fun k => comm_Set.f k l) (setB l) := by
  unfold comm_Set.f setB
  by_cases h : l.length ≤ 8
  · rw [decide_eq_true h, Bool.true_and]
    exact Evt.ite_neg (by omega) (commSetL_ev l.length l 0 hl (by omega) (by omega))
  · rw [decide_eq_false h]
    exact Evt.ite_pos (by omega) (Evt.pure _)
theorem take_at {α : Type} {l : List α} {i : Nat} {x : α} (h : l[i]? = some x) : l.take (i + 1) = l.take i ++ [x] := by rw [List.take_add_one, h]; rfl
end Go.Proofs.Ytjmpojfpbhihpaa.P

end
section
namespace Go.Proofs.Ytjmpojfpbhihpaa.P
open Go.RowKit Go.Proofs.YtjmpojfpbhihpaaW.PrintWords Go.Proofs.YtjmpojfpbhihpaaW.PrintLast Go.Proofs.YtjmpojfpbhihpaaW.PrintMore
set_option linter.unusedVariables false
set_option linter.unusedSimpArgs false

/-- lists of numbers: the longer one is the greater one -/
def cmpIL (a b : List Int) : Int := orI (cmpI a.length b.length) (cmpLst cmpI a b)
/-- the first of a list that isn't nought -/
def firstNz : List Int → Int
  | [] => 0
  | x :: l => orI x (firstNz l)
theorem cmpOr_ev : ∀ (d : Nat) (l : List Int) (i : Nat), l.length ≤ 100 → l.length - i = d → i ≤ l.length → Evt (fun k => cmp_Or_int.l0 k 0 l (l.length : Int) (i : Int)) (firstNz (l.drop i)) := by
  intro d
  induction d with
  | zero =>
    intro l i hl hd hi
    refine Evt.step ?_
    simp only [cmp_Or_int.l0]
    refine Evt.ite_neg (by omega) (Evt.of fun k => ?_)
    rw [List.drop_eq_nil_of_le (by omega)]; rfl
  | succ d ih =>
    intro l i hl hd hi
    refine Evt.step ?_
    simp only [cmp_Or_int.l0]
    obtain ⟨x, hx, he, hdr⟩ := pat (l := l) (i := i) (by omega)
    refine Evt.ite_pos (by omega) (Evt.ite_pos (by omega) (Evt.ite_pos (by omega) ?_))
    rw [rd_at he, hdr]
    show Evt _ (orI x (firstNz (l.drop (i + 1))))
    unfold orI
    by_cases hb : x = 0
    · rw [if_neg (by omega)]
      refine Evt.ite_pos hb ?_
      rw [wrap64_in _ (by omega) (by omega)]
      exact ih l (i + 1) hl (by omega) (by omega)
    · rw [if_pos hb]
      exact Evt.ite_neg hb (Evt.pure _)
theorem cmpOrF_ev (l : List Int) (hl : l.length ≤ 100) : Evt (fun k => cmp_Or_int.f k l) (firstNz l) := cmpOr_ev l.length l 0 hl (by omega) (by omega)
theorem slcCmp_ev : ∀ (d : Nat) (a b : List Int) (i : Nat), a.length ≤ 1000 → a.length - i = d → i ≤ a.length → i ≤ b.length → Evt (fun k => slices_Compare_int_int.l0 k a b a (a.length : Int) (i : Int)) (cmpLst cmpI (a.drop i) (b.drop i)) := by
  intro d
  induction d with
  | zero =>
    intro a b i hl hd hi hb
    refine Evt.step ?_
    simp only [slices_Compare_int_int.l0]
    refine Evt.ite_neg (by omega) (Evt.of fun k => ?_)
    rw [show a.drop i = [] from List.drop_eq_nil_of_le (by omega)]
    by_cases h : i < b.length
    · obtain ⟨y, _, _, hdr⟩ := pat (l := b) (i := i) h
      rw [hdr, if_pos (by omega)]; rfl
    · rw [show b.drop i = [] from List.drop_eq_nil_of_le (by omega), if_neg (by omega)]; rfl
  | succ d ih =>
    intro a b i hl hd hi hb
    refine Evt.step ?_
    simp only [slices_Compare_int_int.l0]
    obtain ⟨x, hx, he, hdr⟩ := pat (l := a) (i := i) (by omega)
    refine Evt.ite_pos (by omega) (Evt.ite_pos (by omega) (Evt.ite_pos (by omega) ?_))
    rw [hdr]
    by_cases h : i < b.length
    · obtain ⟨y, _, hy, hdy⟩ := pat (l := b) (i := i) h
      refine Evt.ite_neg (by omega) (Evt.ite_pos (by omega) ?_)
      rw [rd_at he, rd_at hy, hdy, cmpI_is]
      simp only [Option.bind_some, cmpLst]
      by_cases hz : cmpI x y = 0
      · rw [if_neg (by omega)]
        refine Evt.ite_pos hz ?_
        rw [wrap64_in _ (by omega) (by omega)]
        exact ih a b (i + 1) hl (by omega) (by omega) (by omega)
      · rw [if_pos hz]
        exact Evt.ite_neg hz (Evt.pure _)
    · rw [show b.drop i = [] from List.drop_eq_nil_of_le (by omega)]
      exact Evt.ite_pos (by omega) (Evt.of fun k => rfl)
theorem orI_or (a b : Int) : firstNz [a, b] = orI a b := by
  show orI a (orI b 0) = orI a b
  unfold orI; by_cases h : b = 0 <;> simp [h]
theorem asCmp_ev (a b : List Int) (ha : a.length ≤ 1000) : Evt (fun k => aspath_Compare.f k a b) (cmpIL a b) := by
  unfold aspath_Compare.f
  rw [cmpI_is]
  refine Evt.bindc rfl ?_
  refine Evt.bind (slcCmp_ev a.length a b 0 ha (by omega) (by omega) (by omega)) ?_
  refine Evt.bind (cmpOrF_ev _ (by simp)) ?_
  rw [orI_or]
  exact Evt.pure _
def inB (n a b : Int) : Bool := decide (a ≤ n) && decide (n ≤ b)
theorem within_is (n a b : Int) : attr_within.f n a b = some (inB n a b) := by
  unfold attr_within.f inB
  by_cases h : n ≥ a
  · rw [if_pos h]; simp [h]
  · rw [if_neg h]; simp [h]
theorem asB_in (n : Int) : inB n 1 65535 = asB n := rfl
def pathB (l : List Int) : Bool := decide (l.length ≤ 16) && l.all asB
theorem asMay_is (l : List Int) : aspath_May.f l = some (pathB l) := by
  unfold aspath_May.f pathB
  rw [List.all_eq_not_any_not]
theorem index_ev : ∀ (d : Nat) (l : List Int) (x : Int) (i : Nat), l.length ≤ 100 → l.length - i = d → i ≤ l.length → ∃ r : Int, Evt (fun k => slices_Index_int_int.l0 k l x (l.length : Int) (i : Int)) r ∧ decide (r ≥ 0) = (l.drop i).contains x := by
  intro d
  induction d with
  | zero =>
    intro l x i hl hd hi
    refine ⟨-1, Evt.step ?_, ?_⟩
    · simp only [slices_Index_int_int.l0]
      exact Evt.ite_neg (by omega) (Evt.of fun k => rfl)
    · rw [List.drop_eq_nil_of_le (by omega)]; rfl
  | succ d ih =>
    intro l x i hl hd hi
    obtain ⟨y, hy, he, hdr⟩ := pat (l := l) (i := i) (by omega)
    by_cases h : x = y
    · refine ⟨(i : Int), Evt.step ?_, ?_⟩
      · simp only [slices_Index_int_int.l0]
        refine Evt.ite_pos (by omega) (Evt.ite_pos (by omega) (Evt.ite_pos (by omega) ?_))
        rw [rd_at he]
        exact Evt.ite_pos h (Evt.of fun k => rfl)
      · rw [hdr, decide_eq_true (by omega)]; simp [h]
    · obtain ⟨r, h1, h2⟩ := ih l x (i + 1) hl (by omega) (by omega)
      refine ⟨r, Evt.step ?_, ?_⟩
      · simp only [slices_Index_int_int.l0]
        refine Evt.ite_pos (by omega) (Evt.ite_pos (by omega) (Evt.ite_pos (by omega) ?_))
        rw [rd_at he]
        refine Evt.ite_neg h ?_
        rw [wrap64_in _ (by omega) (by omega)]
        exact h1
      · rw [h2, hdr, List.contains_cons]; simp [h]
theorem contains_ev (l : List Int) (x : Int) (hl : l.length ≤ 100) : Evt (fun k => slices_Contains_int_int.f k l x) (l.contains x) := by
  obtain ⟨r, h1, h2⟩ := index_ev l.length l x 0 hl (by omega) (by omega)
  unfold slices_Contains_int_int.f
  refine Evt.bind h1 (Evt.of fun k => ?_)
  rw [h2]; rfl
def clB (seen : List Int) : List Int → Bool
  | [] => true
  | x :: l => asB x && (!(seen.contains x) && clB (seen ++ [x]) l)
def clustB (l : List Int) : Bool := decide (l.length ≤ 8) && clB [] l
theorem clustL_ev : ∀ (d : Nat) (l : List Int) (i : Nat), l.length ≤ 100 → l.length - i = d → i ≤ l.length → i ≤ 8 → Evt (fun k => attr_clusters.l0 k l l (l.length : Int) (i : Int)) (decide (l.length ≤ 8) && clB (l.take i) (l.drop i)) := by
  intro d
  induction d with
  | zero =>
    intro l i hl hd hi h8
    refine Evt.step ?_
    simp only [attr_clusters.l0]
    refine Evt.ite_neg (by omega) (Evt.of fun k => ?_)
    rw [List.drop_eq_nil_of_le (by omega), decide_eq_true (by omega)]; rfl
  | succ d ih =>
    intro l i hl hd hi h8
    refine Evt.step ?_
    simp only [attr_clusters.l0]
    obtain ⟨x, hx, he, hdr⟩ := pat (l := l) (i := i) (by omega)
    refine Evt.ite_pos (by omega) (Evt.ite_pos (by omega) (Evt.ite_pos (by omega) ?_))
    by_cases h : i = 8
    · refine Evt.ite_pos (by omega) (Evt.of fun k => ?_)
      rw [decide_eq_false (by omega)]; rfl
    refine Evt.ite_neg (by omega) ?_
    have hn := ih l (i + 1) hl (by omega) (by omega) (by omega)
    rw [take_at he] at hn
    rw [rd_at he, hdr]
    refine Evt.bindc (within_is _ _ _) ?_
    rw [asB_in]
    simp only [clB]
    by_cases hb : asB x = true
    · refine Evt.ite_pos hb (Evt.ite_pos (by omega) ?_)
      rw [Int.toNat_natCast]
      refine Evt.bind (contains_ev _ _ (by rw [List.length_take]; omega)) ?_
      rw [hb, Bool.true_and]
      by_cases hc : (l.take i).contains x = true
      · refine Evt.ite_pos hc (Evt.of fun k => ?_)
        rw [hc]; simp
      · refine Evt.ite_neg hc ?_
        rw [Bool.eq_false_iff.mpr hc, wrap64_in _ (by omega) (by omega)]
        exact hn
    · refine Evt.ite_neg hb (Evt.of fun k => ?_)
      rw [Bool.eq_false_iff.mpr hb]; simp
theorem clust_ev (l : List Int) (hl : l.length ≤ 100) : Evt (fun k => attr_clusters.f k l) (clustB l) := clustL_ev l.length l 0 hl (by omega) (by omega) (by omega)
def mayNB (p m o f : Int) : Bool := inB p 0 1048576 && (inB m 0 1048576 && (inB o 0 2 && inB f 0 65535))
def mayAB (p m o : Int) (l : List Int) (c : List S102) (f : Int) (s : List Int) : Bool := mayNB p m o f && (pathB l && (setB c && clustB s))
theorem attrMay_ev (p m o : Int) (l : List Int) (c : List S102) (f : Int) (s : List Int) (hc : c.length ≤ 100) (hs : s.length ≤ 100) : Evt (fun k => attr_May.f k p m o l c f s) (mayAB p m o l c f s) := by
  unfold attr_May.f mayAB mayNB
  refine Evt.bindc (within_is _ _ _) ?_
  by_cases h1 : inB p 0 1048576 = true
  · rw [h1]
    refine Evt.ite_pos rfl (Evt.bindc (within_is _ _ _) ?_)
    by_cases h2 : inB m 0 1048576 = true
    · rw [h2]
      refine Evt.ite_pos rfl (Evt.bindc (within_is _ _ _) ?_)
      by_cases h3 : inB o 0 2 = true
      · rw [h3]
        refine Evt.ite_pos rfl (Evt.bindc (within_is _ _ _) ?_)
        by_cases h4 : inB f 0 65535 = true
        · rw [h4]
          refine Evt.ite_pos rfl (Evt.bindc (asMay_is _) ?_)
          by_cases h5 : pathB l = true
          · rw [h5]
            refine Evt.ite_pos rfl (Evt.bind (commSet_ev c (by omega)) ?_)
            by_cases h6 : setB c = true
            · rw [h6]
              refine Evt.ite_pos rfl (Evt.bind (clust_ev s hs) (Evt.of fun k => ?_))
              simp
            · rw [Bool.eq_false_iff.mpr h6]; exact Evt.ite_neg (by simp) (Evt.of fun k => by simp)
          · rw [Bool.eq_false_iff.mpr h5]; exact Evt.ite_neg (by simp) (Evt.of fun k => by simp)
        · rw [Bool.eq_false_iff.mpr h4]; exact Evt.ite_neg (by simp) (Evt.of fun k => by simp)
      · rw [Bool.eq_false_iff.mpr h3]; exact Evt.ite_neg (by simp) (Evt.of fun k => by simp)
    · rw [Bool.eq_false_iff.mpr h2]; exact Evt.ite_neg (by simp) (Evt.of fun k => by simp)
  · rw [Bool.eq_false_iff.mpr h1]; exact Evt.ite_neg (by simp) (Evt.of fun k => by simp)
/-- how many bytes so many bits take -/
def nb (b : Int) : Nat := ((b + 7) / 8).toNat
theorem nb_le (b : Int) (h0 : 0 ≤ b) (h1 : b ≤ 32) : nb b ≤ 4 := by unfold nb; omega
/-- a number's four bytes -/
def be4 (a : Int) : List Int := [a / 16777216 % 256, a / 65536 % 256, a / 256 % 256, a % 256]
theorem number4_ev (a : Int) (ha : isA a) : Evt (fun k => wire_number.f k ([] : List Int) a 4) (be4 a) := by
  obtain ⟨h0, h1⟩ := ha
  unfold wire_number.f
  rw [show wrap64 (4 - 1) = 3 from by unfold wrap64; omega]
  have s3 : shr .i64 a (wrap64 (8 * 3)) = a / 16777216 := by rw [show wrap64 (8 * 3) = 24 from by unfold wrap64; omega]; rfl
  have s2 : shr .i64 a (wrap64 (8 * 2)) = a / 65536 := by rw [show wrap64 (8 * 2) = 16 from by unfold wrap64; omega]; rfl
  have s1 : shr .i64 a (wrap64 (8 * 1)) = a / 256 := by rw [show wrap64 (8 * 1) = 8 from by unfold wrap64; omega]; rfl
  have s0 : shr .i64 a (wrap64 (8 * 0)) = a := by rw [show wrap64 (8 * 0) = 0 from by unfold wrap64; omega]; show a / 1 = a; omega
  refine Evt.step ?_
  simp only [wire_number.l0]
  refine Evt.ite_pos (by omega) (Evt.ite_pos (by unfold wrap64; omega) (Evt.ite_pos (by simp) ?_))
  rw [s3, show wrap64 (3 - 1) = 2 from by unfold wrap64; omega]
  refine Evt.step ?_
  simp only [wire_number.l0]
  refine Evt.ite_pos (by omega) (Evt.ite_pos (by unfold wrap64; omega) (Evt.ite_pos (by simp) ?_))
  rw [s2, show wrap64 (2 - 1) = 1 from by unfold wrap64; omega]
  refine Evt.step ?_
  simp only [wire_number.l0]
  refine Evt.ite_pos (by omega) (Evt.ite_pos (by unfold wrap64; omega) (Evt.ite_pos (by simp) ?_))
  rw [s1, show wrap64 (1 - 1) = 0 from by unfold wrap64; omega]
  refine Evt.step ?_
  simp only [wire_number.l0]
  refine Evt.ite_pos (by omega) (Evt.ite_pos (by unfold wrap64; omega) (Evt.ite_pos (by simp) ?_))
  rw [s0, show wrap64 (0 - 1) = -1 from by unfold wrap64; omega]
  refine Evt.step ?_
  simp only [wire_number.l0]
  exact Evt.ite_neg (by omega) (Evt.of fun k => by simp [be4])
/-- a prefix's bytes -/
def pfx (a b : Int) : List Int := b :: (be4 a).take (nb b)
theorem nb_is (b : Int) (h0 : 0 ≤ b) (h1 : b ≤ 32) : wrap64 (Int.tdiv (wrap64 (b + 7)) 8) = (nb b : Int) := by
  rw [wrap64_in (b + 7) (by omega) (by omega), Int.tdiv_eq_ediv_of_nonneg (by omega), wrap64_in _ (by omega) (by omega)]
  unfold nb; omega
theorem wPrefix_ev (B : List Int) (hB : B.length ≤ 100000) (a b : Int) (ha : isA a) : Evt (fun k => wire_Prefix.f k B a b) (if mayB a b = true then B ++ pfx a b else B) := by
  unfold wire_Prefix.f
  refine Evt.bindc (a := B) (by unfold bytes_Clone.f; rw [if_pos (by omega)]) (Evt.bindc (may_is a b ha) ?_)
  by_cases hm : mayB a b = true
  · obtain ⟨b0, b1, _⟩ := (mayB_iff a b).1 hm
    rw [if_pos hm]
    refine Evt.ite_pos hm (Evt.ite_pos (by omega) (Evt.bindc rfl ?_))
    rw [wrap64_in a (by have := ha.1; omega) (by have := ha.2; omega), nb_is b b0 b1, Int.emod_eq_of_lt b0 (by omega)]
    have hn := nb_le b b0 b1
    refine Evt.bind (number4_ev a ha) (Evt.ite_pos (by omega) (Evt.ite_pos (by simp [be4]; omega) (Evt.bindc rfl (Evt.ite_pos ?_ (Evt.of fun k => ?_)))))
    · rw [List.length_append, List.length_take]; simp [be4]; omega
    · rw [Int.toNat_natCast]; unfold pfx; simp
  · rw [if_neg hm]
    exact Evt.ite_neg hm (Evt.pure _)
end Go.Proofs.Ytjmpojfpbhihpaa.P

end
section
namespace Go.Proofs.Ytjmpojfpbhihpaa.P
open Go.RowKit Go.Proofs.YtjmpojfpbhihpaaW.PrintWords Go.Proofs.YtjmpojfpbhihpaaW.PrintLast Go.Proofs.YtjmpojfpbhihpaaW.PrintMore
set_option linter.unusedVariables false
set_option linter.unusedSimpArgs false

/-- a message with its head -/
def Msg (b : List Int) : Prop := ∃ (kind : Int) (data : List Int), b = wire_framed.hd kind (19 + (data.length : Int)) ++ data ∧ 1 ≤ kind ∧ kind ≤ 4 ∧ data.length ≤ 4077 ∧ U8 data
def ffs : List Int := [255, 255, 255, 255, 255, 255, 255, 255, 255, 255, 255, 255, 255, 255, 255, 255]
theorem hd_is (kind n : Int) : wire_framed.hd kind n = ffs ++ [n / 256 % 256, n % 256, kind] := rfl
theorem U8.append {A B : List Int} (h : U8 A) (k : U8 B) : U8 (A ++ B) := fun x hx => by
  rcases List.mem_append.1 hx with hx | hx
  · exact h x hx
  · exact k x hx
theorem U8.nil : U8 [] := fun x hx => by cases hx
theorem u8_mod (x : Int) : 0 ≤ x % 256 ∧ x % 256 ≤ 255 := by omega
theorem msg_len {b : List Int} (h : Msg b) : 19 ≤ b.length ∧ b.length ≤ 4096 := by
  obtain ⟨kind, data, rfl, k1, k2, hd, hu⟩ := h
  rw [hd_is, List.length_append, List.length_append]
  have h1 : ffs.length = 16 := rfl
  simp only [List.length_cons, List.length_nil]
  omega
theorem msg_u8 {b : List Int} (h : Msg b) : U8 b := by
  obtain ⟨kind, data, rfl, k1, k2, hd, hu⟩ := h
  rw [hd_is]
  refine U8.append (U8.append (fun x hx => ?_) (fun x hx => ?_)) hu
  · have : x = 255 := by simp [ffs] at hx; exact hx
    omega
  · simp only [List.mem_cons, List.not_mem_nil, or_false] at hx
    rcases hx with rfl | rfl | rfl <;> omega
theorem msg_head {b : List Int} (h : Msg b) (r : List Int) : badD (b ++ r) = false ∧ szD (b ++ r) = (b.length : Int) := by
  have hl := msg_len h
  obtain ⟨kind, data, rfl, k1, k2, hd, hu⟩ := h
  obtain ⟨n, hn⟩ : ∃ n : Int, n = 19 + (data.length : Int) := ⟨_, rfl⟩
  have hlen : ((wire_framed.hd kind (19 + (data.length : Int)) ++ data).length : Int) = n := by
    rw [hd_is, List.length_append, List.length_append]
    have h1 : ffs.length = 16 := rfl
    simp only [List.length_cons, List.length_nil]
    omega
  rw [hlen]
  rw [← hn, hd_is]
  have e : ffs ++ [n / 256 % 256, n % 256, kind] ++ data ++ r = ffs ++ (n / 256 % 256 :: n % 256 :: kind :: (data ++ r)) := by simp
  rw [e]
  have g16 : (ffs ++ (n / 256 % 256 :: n % 256 :: kind :: (data ++ r))).getD 16 0 = n / 256 % 256 := rfl
  have g17 : (ffs ++ (n / 256 % 256 :: n % 256 :: kind :: (data ++ r))).getD 17 0 = n % 256 := rfl
  have g18 : (ffs ++ (n / 256 % 256 :: n % 256 :: kind :: (data ++ r))).getD 18 0 = kind := rfl
  have hsz : szD (ffs ++ (n / 256 % 256 :: n % 256 :: kind :: (data ++ r))) = n := by unfold szD; rw [g16, g17]; omega
  have hcn : cntD (ffs ++ (n / 256 % 256 :: n % 256 :: kind :: (data ++ r))) = 16 := by
    have : (ffs ++ (n / 256 % 256 :: n % 256 :: kind :: (data ++ r))).take 16 = ffs := rfl
    unfold cntD
    rw [this]
    decide
  refine ⟨?_, hsz⟩
  unfold badD
  rw [hcn, hsz, g18, decide_eq_false (by omega), decide_eq_false (by omega), decide_eq_false (by omega), decide_eq_false (by omega), decide_eq_false (by omega)]
  rfl
theorem split_msgs (tl : List Int) (ht : tl.length < 19) : ∀ (bs : List (List Int)) (pre : List Int) (acc : List (List Int)), (∀ b ∈ bs, Msg b) → (pre ++ (bs.flatten ++ tl)).length ≤ 100000 → U8 (pre ++ (bs.flatten ++ tl)) → acc.length + bs.length ≤ 1000 →
    Evt (fun k => wire_Split.l0 k (pre ++ (bs.flatten ++ tl)) acc (pre.length : Int)) (acc ++ bs, ((pre.length + bs.flatten.length : Nat) : Int), 0) := by
  intro bs
  induction bs with
  | nil =>
    intro pre acc hm hB hu ha
    have hD : (pre ++ ([].flatten ++ tl)).drop pre.length = tl := by simp
    have := sp_end (pre ++ ([].flatten ++ tl)) hB acc pre.length (by simp) (by rw [hD]; exact ht)
    simpa using this
  | cons b bs ih =>
    intro pre acc hm hB hu ha
    have hb := hm b (by simp)
    have hl := msg_len hb
    have hfl : (b :: bs).flatten = b ++ bs.flatten := rfl
    have hD : (pre ++ ((b :: bs).flatten ++ tl)).drop pre.length = b ++ (bs.flatten ++ tl) := by rw [List.drop_left, hfl, List.append_assoc]
    obtain ⟨m1, m2⟩ := msg_head hb (bs.flatten ++ tl)
    rw [← hD] at m1 m2
    refine sp_go (pre ++ ((b :: bs).flatten ++ tl)) hB hu acc (by omega) pre.length (by simp) ?_ _ (fun h => by rw [m1] at h; cases h) (fun _ h => ?_) (fun _ _ _ _ => ?_)
    · rw [hD, List.length_append]; omega
    · rw [m2, hD, List.length_append] at h; omega
    · rw [m2, Int.toNat_natCast, hD, List.take_left]
      have := ih (pre ++ b) (acc ++ [b]) (fun x hx => hm x (by simp [hx])) (by rw [hfl] at hB; simpa [List.append_assoc] using hB) (by rw [hfl] at hu; simpa [List.append_assoc] using hu) (by simp at ha ⊢; omega)
      rw [List.append_assoc pre b] at this
      rw [hfl, List.append_assoc b]
      rw [List.length_append] at this
      rw [List.length_append, show acc ++ b :: bs = acc ++ [b] ++ bs by simp, ← Nat.add_assoc]
      exact this
theorem splits_ev (bs : List (List Int)) (tl : List Int) (ht : tl.length < 19) (hm : ∀ b ∈ bs, Msg b) (hB : (bs.flatten ++ tl).length ≤ 100000) (hu : U8 (bs.flatten ++ tl)) (ha : bs.length ≤ 1000) :
    Evt (fun k => wire_Split.f k (bs.flatten ++ tl)) (bs, (bs.flatten.length : Int), 0) := by
  have := split_msgs tl ht bs [] [] hm hB hu (by simpa using ha)
  simp only [List.nil_append, List.length_nil, Nat.zero_add] at this
  exact this
theorem num_len : ∀ (j : Nat) (B : List Int) (n : Int), B.length + j ≤ 100000 → j ≤ 8 → U8 B → ∃ r : List Int, Evt (fun k => wire_number.l0 k B n ((j : Int) - 1)) r ∧ r.length = B.length + j ∧ U8 r := by
  intro j
  induction j with
  | zero =>
    intro B n hB hj hu
    refine ⟨B, Evt.step ?_, rfl, hu⟩
    simp only [wire_number.l0]
    exact Evt.ite_neg (by omega) (Evt.pure _)
  | succ j ih =>
    intro B n hB hj hu
    obtain ⟨r, h1, h2, h3⟩ := ih (B ++ [(shr .i64 n (wrap64 (8 * (((j + 1 : Nat) : Int) - 1)))) % 256]) n (by simp; omega) (by omega) (hu.append (fun x hx => by rw [List.mem_singleton.1 hx]; exact u8_mod _))
    refine ⟨r, Evt.step ?_, by rw [h2]; simp; omega, h3⟩
    simp only [wire_number.l0]
    refine Evt.ite_pos (by omega) (Evt.ite_pos (by rw [wrap64_in _ (by omega) (by omega)]; omega) (Evt.ite_pos (by omega) ?_))
    rw [wrap64_in (((j + 1 : Nat) : Int) - 1 - 1) (by omega) (by omega), show (((j + 1 : Nat) : Int) - 1 - 1) = (j : Int) - 1 by omega]
    exact h1
end Go.Proofs.Ytjmpojfpbhihpaa.P

end
section
namespace Go.Proofs.Ytjmpojfpbhihpaa.P
open Go.RowKit Go.Proofs.YtjmpojfpbhihpaaW.PrintWords Go.Proofs.YtjmpojfpbhihpaaW.PrintLast Go.Proofs.YtjmpojfpbhihpaaW.PrintMore
attribute [local go_sem] max2_int min2_int max_two min_two max_three min_three max_four min_four   -- for this text's walks alone
set_option linter.unusedVariables false
set_option linter.unusedSimpArgs false

def wire_Encode.f (k : Nat) (l0_0 : List (S25)) (l0_1 : List (S25)) (a0_2 : Int) (a0_3 : Int) (a0_4 : Int) (l0_5 : List Int) (l0_6 : List (S102)) (a0_7 : Int) (l0_8 : List Int) : Option (List Int × Int) := (wire_May.f k l0_0 l0_1 a0_2 a0_3 a0_4 l0_5 l0_6 a0_7 l0_8).bind fun t292 => (if t292 = true then ((wire_prefixes.f k l0_0).bind fun t293 => ((wire_number.f k ([] : List Int) (t293.length : Int) 2).bind fun t296 => (if t296.length + t293.length < 140737488355328 then ((some (t296 ++ t293 : List Int)).bind fun y299 => (if (l0_1.length : Int) > 0 then ((wire_attributes.f k a0_2 a0_3 a0_4 l0_5 l0_6 a0_7 l0_8).bind fun t302 => ((wire_number.f k y299 (t302.length : Int) 2).bind fun t305 => (if t305.length + t302.length < 140737488355328 then ((some (t305 ++ t302 : List Int)).bind fun y308 => ((wire_prefixes.f k l0_1).bind fun t311 => (if y308.length + t311.length < 140737488355328 then ((wire_framed.f 2 (y308 ++ t311)).bind fun t317 => (some (t317, 0))) else (none)))) else (none)))) else ((wire_number.f k y299 (0 : Int) 2).bind fun t320 => ((wire_prefixes.f k l0_1).bind fun t323 => (if t320.length + t323.length < 140737488355328 then ((wire_framed.f 2 (t320 ++ t323)).bind fun t329 => (some (t329, 0))) else (none)))))) else (none)))) else (some (([] : List Int), 1)))
set_option maxHeartbeats 8000000 in
set_option maxRecDepth 100000 in
theorem wire_Encode.calls (k : Nat) (ao : Option Addr) (ap : Nat) (af : List (S25)) (aq : Option Addr) (ar : Nat) (ae : List (S25)) (ak : Int) (al : Int) (am : Int) (au : Option Addr) (av : Nat) (ah : List Int) (aw : Option Addr) (ax : Nat) (ai : List (S102)) (an : Int) (ay : Option Addr) (az : Nat) (aj : List Int) (r1 : List Int) (r2 : Int) (w : World) (hr0_0 : Kd.C k25 w ao af.length af) (hc0_0 : af.length ≤ ap) (hr0_1 : Kd.C k25 w aq ae.length ae) (hc0_1 : ae.length ≤ ar) (hr0_5 : Kd.C (Kd.int .i64) w au ah.length ah) (hc0_5 : ah.length ≤ av) (hr0_6 : Kd.C k102 w aw ai.length ai) (hc0_6 : ai.length ≤ ax) (hr0_8 : Kd.C (Kd.int .i64) w ay aj.length aj) (hc0_8 : aj.length ≤ az) (h : wire_Encode.f k af ae ak al am ah ai an aj = some (r1, r2)) :
  Calls Try.prog 17 #[.agg #[.slice ao af.length ap, .slice aq ae.length ar, .int .i64 ak, .int .i64 al, .int .i64 am, .slice au ah.length av, .slice aw ai.length ax, .int .i64 an, .slice ay aj.length az]] w fun e w' => ∃ v0_ : Value, e = .returned (.tuple #[v0_, .int .i64 r2]) ∧ Kd.R (Kd.int .u8) 5 w' w.heap.size (fun _ => True) v0_ r1 ∧ Below w.heap.size w w' := by
 have hu47 := Try.underlying47
 have hu41 := Try.underlying41
 have HR0_0 := Aside0.mk hr0_0
 have HC0_0 := Aside0.mk hc0_0
 clear hr0_0 hc0_0
 have HR0_1 := Aside0.mk hr0_1
 have HC0_1 := Aside0.mk hc0_1
 clear hr0_1 hc0_1
 have HR0_5 := Aside0.mk hr0_5
 have HC0_5 := Aside0.mk hc0_5
 clear hr0_5 hc0_5
 have HR0_6 := Aside0.mk hr0_6
 have HC0_6 := Aside0.mk hc0_6
 clear hr0_6 hc0_6
 have HR0_8 := Aside0.mk hr0_8
 have HC0_8 := Aside0.mk hc0_8
 clear hr0_8 hc0_8
 have HB := Aside0.mk (Below.refl w.heap.size w)
 have H := h
 unfold wire_Encode.f at H
 clear h
 replace H := Option.bind_eq_some_iff.mp H
 obtain ⟨t292, A20, H⟩ := H
 (try dsimp only at H)
 have A2 := Aside0.mk A20
 clear A20
 by_cases c3 : t292 = true
 ·subst c3
  have H1 := H
  rw [if_pos rfl] at H1
  clear H
  have H := H1
  clear H1
  replace H := Option.bind_eq_some_iff.mp H
  obtain ⟨t293, A40, H⟩ := H
  (try dsimp only at H)
  have A4 := Aside0.mk A40
  clear A40
  replace H := Option.bind_eq_some_iff.mp H
  obtain ⟨t296, A50, H⟩ := H
  (try dsimp only at H)
  have A5 := Aside0.mk A50
  clear A50
  by_cases c6 : t296.length + t293.length < 140737488355328
  ·rw [if_pos c6] at H
   have LMc6 := Aside0.mk c6
   clear c6
   obtain ⟨bc, hy299⟩ : ∃ y_ : List Int, y_ = (t296 ++ t293) := ⟨_, rfl⟩
   replace H : (if (ae.length : Int) > 0 then ((wire_attributes.f k ak al am ah ai an aj).bind fun t302 => ((wire_number.f k bc (t302.length : Int) 2).bind fun t305 => (if t305.length + t302.length < 140737488355328 then ((some (t305 ++ t302 : List Int)).bind fun bf => ((wire_prefixes.f k ae).bind fun t311 => (if bf.length + t311.length < 140737488355328 then ((wire_framed.f 2 (bf ++ t311)).bind fun t317 => (some (t317, 0))) else (none)))) else (none)))) else ((wire_number.f k bc (0 : Int) 2).bind fun t320 => ((wire_prefixes.f k ae).bind fun t323 => (if t320.length + t323.length < 140737488355328 then ((wire_framed.f 2 (t320 ++ t323)).bind fun t329 => (some (t329, 0))) else (none))))) = some (r1, r2) := by first | (rw [hy299]; with_reducible exact H) | (have H2_ := (Option.bind_some _ _).symm.trans H; rw [hy299]; with_reducible exact H2_) | (have H2_ := (Option.bind_some _ _).symm.trans H; with_reducible exact H2_) | with_reducible exact H | (rw [hy299]; exact H) | exact H
   have Ny299 := Aside0.mk hy299
   clear hy299
   by_cases c7 : (ae.length : Int) > 0
   ·rw [if_pos c7] at H
    have c7b0 : decide (0 < (ae.length : Int)) = true := decide_eq_true c7
    have c7b1 : decide (0 < ae.length) = true := decide_eq_true (by omega)
    clear c7
    replace H := Option.bind_eq_some_iff.mp H
    obtain ⟨t302, A80, H⟩ := H
    (try dsimp only at H)
    have A8 := Aside0.mk A80
    clear A80
    replace H := Option.bind_eq_some_iff.mp H
    obtain ⟨t305, A90, H⟩ := H
    (try dsimp only at H)
    have A9 := Aside0.mk A90
    clear A90
    by_cases c10 : t305.length + t302.length < 140737488355328
    ·rw [if_pos c10] at H
     have LMc10 := Aside0.mk c10
     clear c10
     obtain ⟨bf, hy308⟩ : ∃ y_ : List Int, y_ = (t305 ++ t302) := ⟨_, rfl⟩
     replace H : ((wire_prefixes.f k ae).bind fun t311 => (if bf.length + t311.length < 140737488355328 then ((wire_framed.f 2 (bf ++ t311)).bind fun t317 => (some (t317, 0))) else (none))) = some (r1, r2) := by first | (rw [hy308]; with_reducible exact H) | (have H2_ := (Option.bind_some _ _).symm.trans H; rw [hy308]; with_reducible exact H2_) | (have H2_ := (Option.bind_some _ _).symm.trans H; with_reducible exact H2_) | with_reducible exact H | (rw [hy308]; exact H) | exact H
     have Ny308 := Aside0.mk hy308
     clear hy308
     replace H := Option.bind_eq_some_iff.mp H
     obtain ⟨t311, A110, H⟩ := H
     (try dsimp only at H)
     have A11 := Aside0.mk A110
     clear A110
     by_cases c12 : bf.length + t311.length < 140737488355328
     ·rw [if_pos c12] at H
      have LMc12 := Aside0.mk c12
      clear c12
      obtain ⟨y314, hy314⟩ : ∃ y_ : List Int, y_ = (bf ++ t311) := ⟨_, rfl⟩
      replace H : ((wire_framed.f 2 y314).bind fun t317 => (some (t317, 0))) = some (r1, r2) := by first | (rw [hy314]; with_reducible exact H) | (have H2_ := (Option.bind_some _ _).symm.trans H; rw [hy314]; with_reducible exact H2_) | (have H2_ := (Option.bind_some _ _).symm.trans H; with_reducible exact H2_) | with_reducible exact H | (rw [hy314]; exact H) | exact H
      have Ny314 := Aside0.mk hy314
      clear hy314
      replace H := Option.bind_eq_some_iff.mp H
      obtain ⟨t317, A130, H⟩ := H
      replace H : (some (t317, 0)) = some (r1, r2) := H
      have A13 := Aside0.mk A130
      clear A130
      simp only [Option.some.injEq, Prod.mk.injEq] at H
      obtain ⟨rfl, rfl⟩ := H
      go_enter Try.func17, Try.ntmps17
      go_wp2_with (first | ((with_reducible refine gate_dst (N := 1) rfl ?_); refine box_event ?hg (N := 1) ?hd (cs := #[.slice ao af.length ap, .slice aq ae.length ar, .int .i64 ak, .int .i64 al, .int .i64 am, .slice au ah.length av, .slice aw ai.length ax, .int .i64 an, .slice ay aj.length az]) (t := 47) ?hr ?_; (case hd => rfl); (case hg => rfl); (case hr => first | (go_simp; done) | (go_simp; rfl)); intro ab hg w14 hbox hb; have n0_ := Aside0.mk (below_step (by repeat (first | (with_reducible first | exact HB.out | apply below_alloc | apply pw_below_drewN | apply below_drew1) | exact HB.out)) hb); have n1_ := Aside0.mk (hbox); have n2_ := Aside0.mk ((by rw [hg]; exact (below_size (by repeat (first | (with_reducible first | exact HB.out | apply below_alloc | apply pw_below_drewN | apply below_drew1) | exact HB.out))) : w.heap.size ≤ ab)); have n3_ := Aside0.mk ((by rw [hg]; exact (below_size (by repeat (first | (with_reducible first | exact HB.out | apply below_alloc | apply pw_below_drewN | apply below_drew1) | exact HB.out))) : w.heap.size ≤ ab)); clear HB; have HB := n0_; have aa := n1_; have GW291 := n2_; have ad := n3_; clear n0_ n1_ n2_ n3_; clear hb hbox hg; have hcz15_0 : w14.cell? ⟨ab, 0, none⟩ = some (.slice ao af.length ap) := (blk_cell aa.out 0).trans rfl; have hcz15_1 : w14.cell? ⟨ab, 1, none⟩ = some (.slice aq ae.length ar) := (blk_cell aa.out 1).trans rfl; have hcz15_2 : w14.cell? ⟨ab, 2, none⟩ = some (.int .i64 ak) := (blk_cell aa.out 2).trans rfl; have hcz15_3 : w14.cell? ⟨ab, 3, none⟩ = some (.int .i64 al) := (blk_cell aa.out 3).trans rfl; have hcz15_4 : w14.cell? ⟨ab, 4, none⟩ = some (.int .i64 am) := (blk_cell aa.out 4).trans rfl; have hcz15_5 : w14.cell? ⟨ab, 5, none⟩ = some (.slice au ah.length av) := (blk_cell aa.out 5).trans rfl; have hcz15_6 : w14.cell? ⟨ab, 6, none⟩ = some (.slice aw ai.length ax) := (blk_cell aa.out 6).trans rfl; have hcz15_7 : w14.cell? ⟨ab, 7, none⟩ = some (.int .i64 an) := (blk_cell aa.out 7).trans rfl; have hcz15_8 : w14.cell? ⟨ab, 8, none⟩ = some (.slice ay aj.length az) := (blk_cell aa.out 8).trans rfl; have hfz15_0 := blk_frozen aa.out 0; have hfz15_1 := blk_frozen aa.out 1; have hfz15_2 := blk_frozen aa.out 2; have hfz15_3 := blk_frozen aa.out 3; have hfz15_4 := blk_frozen aa.out 4; have hfz15_5 := blk_frozen aa.out 5; have hfz15_6 := blk_frozen aa.out 6; have hfz15_7 := blk_frozen aa.out 7; have hfz15_8 := blk_frozen aa.out 8) | ((with_reducible refine gate_callee (f := 19) rfl ?_); refine goesL_ (some 8) rfl rfl Try.func19 (by kernel_rfl) rfl #[.agg #[.slice ao af.length ap, .slice aq ae.length ar, .int .i64 ak, .int .i64 al, .int .i64 am, .slice au ah.length av, .slice aw ai.length ax, .int .i64 an, .slice ay aj.length az]] rfl (by (try simp only [List.map_toArray, List.map_cons, List.map_nil]); first | done | rfl) ?_; (with_reducible refine (wire_May.calls k _ _ af _ _ ae ak al am _ _ ah _ _ ai an _ _ aj true _ ?side1 ?side2 ?side3 ?side4 ?side5 ?side6 ?side7 ?side8 ?side9 ?side10 A2.out).mono ?_); (case side1 | side3 | side5 | side7 | side9 => repeat (first | exact (Kd.C_below HR0_0.out HB.out) | exact (Kd.C_below HR0_1.out HB.out) | exact (Kd.C_below HR0_5.out HB.out) | exact (Kd.C_below HR0_6.out HB.out) | exact (Kd.C_below HR0_8.out HB.out) | (with_reducible refine Kd.C_alloc ?_ _) | (with_reducible refine Kd.C_drewN ?_ _) | (with_reducible refine Kd.C_drew ?_))); (case side2 | side4 | side6 | side8 | side10 => first | exact HC0_0.out | exact HC0_1.out | exact HC0_5.out | exact HC0_6.out | exact HC0_8.out); rintro e w16 ⟨rfl, hb⟩; refine ⟨_, rfl, ?_⟩; replace aa := Aside0.mk (blk_below (g := ab) (by (with_reducible repeat (first | refine blk_drewN ?_ _ | refine blk_drew ?_ | refine blk_alloc ?_ _)); exact aa.out) hb); replace HB := Aside0.mk (below_step (by repeat (first | (with_reducible first | exact HB.out | apply below_alloc | apply pw_below_drewN | apply below_drew1 | refine below_set ?_ ad.out) | exact HB.out)) hb); (try clear hb); (try clear bg); (try clear hk); (try clear hi); have hcz17_0 : w16.cell? ⟨ab, 0, none⟩ = some (.slice ao af.length ap) := (blk_cell aa.out 0).trans rfl; have hcz17_1 : w16.cell? ⟨ab, 1, none⟩ = some (.slice aq ae.length ar) := (blk_cell aa.out 1).trans rfl; have hcz17_2 : w16.cell? ⟨ab, 2, none⟩ = some (.int .i64 ak) := (blk_cell aa.out 2).trans rfl; have hcz17_3 : w16.cell? ⟨ab, 3, none⟩ = some (.int .i64 al) := (blk_cell aa.out 3).trans rfl; have hcz17_4 : w16.cell? ⟨ab, 4, none⟩ = some (.int .i64 am) := (blk_cell aa.out 4).trans rfl; have hcz17_5 : w16.cell? ⟨ab, 5, none⟩ = some (.slice au ah.length av) := (blk_cell aa.out 5).trans rfl; have hcz17_6 : w16.cell? ⟨ab, 6, none⟩ = some (.slice aw ai.length ax) := (blk_cell aa.out 6).trans rfl; have hcz17_7 : w16.cell? ⟨ab, 7, none⟩ = some (.int .i64 an) := (blk_cell aa.out 7).trans rfl; have hcz17_8 : w16.cell? ⟨ab, 8, none⟩ = some (.slice ay aj.length az) := (blk_cell aa.out 8).trans rfl; have hfz17_0 := blk_frozen aa.out 0; have hfz17_1 := blk_frozen aa.out 1; have hfz17_2 := blk_frozen aa.out 2; have hfz17_3 := blk_frozen aa.out 3; have hfz17_4 := blk_frozen aa.out 4; have hfz17_5 := blk_frozen aa.out 5; have hfz17_6 := blk_frozen aa.out 6; have hfz17_7 := blk_frozen aa.out 7; have hfz17_8 := blk_frozen aa.out 8) | ((with_reducible refine gate_callee (f := 35) rfl ?_); refine goesL_ (some 12) rfl rfl Try.func35 (by kernel_rfl) rfl #[.slice ao af.length ap] rfl (by (try simp only [List.map_toArray, List.map_cons, List.map_nil]); first | done | rfl) ?_; (with_reducible refine (wire_prefixes.calls k _ _ af t293 _ ?side1 ?side2 A4.out).mono ?_); (case side1 => repeat (first | exact (Kd.C_below HR0_0.out HB.out) | (with_reducible refine Kd.C_alloc ?_ _) | (with_reducible refine Kd.C_drewN ?_ _) | (with_reducible refine Kd.C_drew ?_))); (case side2 => exact HC0_0.out); rintro e w18 ⟨v294, rfl, ho0, hb⟩; refine ⟨_, rfl, ?_⟩; have ac := Aside0.mk (Kd.R_lower ho0 (below_size (by repeat (first | (with_reducible first | exact HB.out | apply below_alloc | apply pw_below_drewN | apply below_drew1 | refine below_set ?_ ad.out) | exact HB.out)))); replace aa := Aside0.mk (blk_below (g := ab) (by (with_reducible repeat (first | refine blk_drewN ?_ _ | refine blk_drew ?_ | refine blk_alloc ?_ _)); exact aa.out) hb); replace HB := Aside0.mk (below_step (by repeat (first | (with_reducible first | exact HB.out | apply below_alloc | apply pw_below_drewN | apply below_drew1 | refine below_set ?_ ad.out) | exact HB.out)) hb); (try clear hb); (try clear bg); (try clear hk); (try clear hi); (try clear ho0); obtain ⟨bd, be, eo19⟩ := Kd.R_slice ac.out; subst eo19) | ((with_reducible refine gate_callee (f := 28) rfl ?_); refine goesL_ (some 15) rfl rfl Try.func28 (by kernel_rfl) rfl #[.slice none 0 0, .int .i64 (t293.length : Int), .int .i64 2] rfl (by (try simp only [List.map_toArray, List.map_cons, List.map_nil]); first | done | rfl) ?_; (refine (wire_number.calls k (fun k_ => some k_ = (.slice none 0 0 : Value).ownBlock) (.slice none 0 0) ([] : List Int) (t293.length : Int) 2 t296 w _ ?side1 ?side2 A5.out).mono ?_); (case side1 => repeat (first | (with_reducible first | exact HB.out | apply below_alloc | apply pw_below_drewN | apply below_drew1 | refine below_set ?_ ad.out) | exact HB.out)); (case side2 => exact Kd.R_nil _ _ _ _ _); rintro e w20 ⟨v297, rfl, ho0, hb, hkp⟩; refine ⟨_, rfl, ?_⟩; have n0_ := Aside0.mk (blk_kept (by (with_reducible repeat (first | refine blk_drewN ?_ _ | refine blk_drew ?_ | refine blk_alloc ?_ _)); exact aa.out) hkp (fun hs_ => (fun e_ => by simp [Value.ownBlock] at e_) hs_)); have n1_ := Aside0.mk (Kd.R_mono (ok' := fun k_ => some k_ ≠ (v297 : Value).ownBlock) (Kd.R_keptB (ac.out) hkp (fun k_ hk_ hs_ => (fun e_ => by simp [Value.ownBlock] at e_) hs_)) (fun k_ hk_ => fun e_ => Or.elim (ho0.1 k_ e_.symm) (fun hs_ => hk_.2.1 hs_) (fun hn_ => Nat.not_le.2 hk_.2.2 hn_))); have n2_ := Aside0.mk (Kd.R_mono (ok' := fun k_ => some k_ ≠ (.slice bd t293.length be : Value).ownBlock) ho0 (fun k_ hk_ => Or.elim hk_ (fun hs_ => absurd hs_ (by simp [Value.ownBlock])) (fun hn_ => (Kd.fresh' (Kd.R_lt (by (with_reducible repeat (first | apply Kd.R_alloc | apply Kd.R_drewN | apply Kd.R_drew)); exact ac.out)) k_ hn_)))); have n3_ := Aside0.mk (hb); clear aa; clear ac; clear HB; have aa := n0_; have ac := n1_; have HO298 := n2_; have HB := n3_; clear n0_ n1_ n2_ n3_; (try clear hb); (try clear hkp); (try clear ho0)) | ((with_reducible refine gate_builtin (b := .append) (xs := #[.tmp 15, .tmp 16]) rfl ?_); at_builtin; refine Kd.R_append_rows (Kd.int .u8) (w0 := w) w.heap.size rfl (.tmp 15) (.tmp 16) 22 5 (.int .u8 0) 1 rfl Try.underlying22 info5 rfl (by decide) (by omega) v297 t296 t293 _ _ _ (fun k_ => some k_ ≠ (.slice bd t293.length be : Value).ownBlock) (fun _ => False) rfl rfl ?aO ?aR (fun _ _ h => h) (fun _ h => h.elim) ?aF ?aB ?aS ?aL ?_; (case aR => repeat (first | exact (Kd.R_reads' ac.out).2.2 | (with_reducible refine Kd.C_alloc ?_ _) | (with_reducible refine Kd.C_drewN ?_ _) | (with_reducible refine Kd.C_drew ?_))); (case aB => exact (by repeat (first | (with_reducible first | exact HB.out | apply below_alloc | apply pw_below_drewN | apply below_drew1 | refine below_set ?_ ad.out) | exact HB.out))); (case aF => exact (fun k_ hk => Kd.fresh' (Kd.R_lt (by (with_reducible repeat (first | apply Kd.R_alloc | apply Kd.R_drewN | apply Kd.R_drew)); exact ac.out)) k_ hk)); (case aO => exact (by (with_reducible repeat (first | apply Kd.R_alloc | apply Kd.R_drewN | apply Kd.R_drew)); exact HO298.out)); (case aS => exact (below_size (by repeat (first | (with_reducible first | exact HB.out | apply below_alloc | apply pw_below_drewN | apply below_drew1 | refine below_set ?_ ad.out) | exact HB.out)))); (case aL => have := LMc6.out; omega); intro v300 w21 ho hb hg hat; rw [← Ny299.out] at ho; replace aa := Aside0.mk (blk_grown (g := ab) (o := .cells #[.slice ao af.length ap, .slice aq ae.length ar, .int .i64 ak, .int .i64 al, .int .i64 am, .slice au ah.length av, .slice aw ai.length ax, .int .i64 an, .slice ay aj.length az] 47 (0, 0)) (by (with_reducible repeat (first | refine blk_drewN ?_ _ | refine blk_drew ?_ | refine blk_alloc ?_ _)); exact aa.out) hg (Kd.R_ne HO298.out aa.out (by decide))); replace ac := Aside0.mk (Kd.R_after (ok := (fun _ => True)) (by (with_reducible repeat (first | apply Kd.R_alloc | apply Kd.R_drewN | apply Kd.R_drew)); exact Kd.R_mono ac.out (fun _ hk => ⟨trivial, hk⟩)) hg hat); replace HB := Aside0.mk (hb); have a9 := Aside0.mk (ho); clear HO298; clear ho hb hg hat; have hcz22_0 : w21.cell? ⟨ab, 0, none⟩ = some (.slice ao af.length ap) := (blk_cell aa.out 0).trans rfl; have hcz22_1 : w21.cell? ⟨ab, 1, none⟩ = some (.slice aq ae.length ar) := (blk_cell aa.out 1).trans rfl; have hcz22_2 : w21.cell? ⟨ab, 2, none⟩ = some (.int .i64 ak) := (blk_cell aa.out 2).trans rfl; have hcz22_3 : w21.cell? ⟨ab, 3, none⟩ = some (.int .i64 al) := (blk_cell aa.out 3).trans rfl; have hcz22_4 : w21.cell? ⟨ab, 4, none⟩ = some (.int .i64 am) := (blk_cell aa.out 4).trans rfl; have hcz22_5 : w21.cell? ⟨ab, 5, none⟩ = some (.slice au ah.length av) := (blk_cell aa.out 5).trans rfl; have hcz22_6 : w21.cell? ⟨ab, 6, none⟩ = some (.slice aw ai.length ax) := (blk_cell aa.out 6).trans rfl; have hcz22_7 : w21.cell? ⟨ab, 7, none⟩ = some (.int .i64 an) := (blk_cell aa.out 7).trans rfl; have hcz22_8 : w21.cell? ⟨ab, 8, none⟩ = some (.slice ay aj.length az) := (blk_cell aa.out 8).trans rfl; have hfz22_0 := blk_frozen aa.out 0; have hfz22_1 := blk_frozen aa.out 1; have hfz22_2 := blk_frozen aa.out 2; have hfz22_3 := blk_frozen aa.out 3; have hfz22_4 := blk_frozen aa.out 4; have hfz22_5 := blk_frozen aa.out 5; have hfz22_6 := blk_frozen aa.out 6; have hfz22_7 := blk_frozen aa.out 7; have hfz22_8 := blk_frozen aa.out 8) | ((with_reducible refine gate_callee (f := 36) rfl ?_); refine goesL_ (some 24) rfl rfl Try.func36 (by kernel_rfl) rfl #[.agg #[.int .i64 ak, .int .i64 al, .int .i64 am, .slice au ah.length av, .slice aw ai.length ax, .int .i64 an, .slice ay aj.length az]] rfl (by (try simp only [List.map_toArray, List.map_cons, List.map_nil]); first | done | rfl) ?_; (with_reducible refine (wire_attributes.calls k ak al am _ _ ah _ _ ai an _ _ aj t302 _ ?side1 ?side2 ?side3 ?side4 ?side5 ?side6 A8.out).mono ?_); (case side1 | side3 | side5 => repeat (first | exact (Kd.C_below HR0_5.out HB.out) | exact (Kd.C_below HR0_6.out HB.out) | exact (Kd.C_below HR0_8.out HB.out) | (with_reducible refine Kd.C_alloc ?_ _) | (with_reducible refine Kd.C_drewN ?_ _) | (with_reducible refine Kd.C_drew ?_))); (case side2 | side4 | side6 => first | exact HC0_5.out | exact HC0_6.out | exact HC0_8.out); rintro e w23 ⟨v303, rfl, ho0, hb⟩; refine ⟨_, rfl, ?_⟩; have n0_ := Aside0.mk (Kd.R_elder' (by (with_reducible repeat (first | apply Kd.R_alloc | apply Kd.R_drewN | apply Kd.R_drew)); exact ac.out) (Kd.R_base ho0) hb); have n1_ := Aside0.mk (Kd.R_elder' (by (with_reducible repeat (first | apply Kd.R_alloc | apply Kd.R_drewN | apply Kd.R_drew)); exact a9.out) (Kd.R_base ho0) hb); have n2_ := Aside0.mk (Kd.R_lower (Kd.R_new' (Kd.R_new' ho0 (Kd.R_lt (by (with_reducible repeat (first | apply Kd.R_alloc | apply Kd.R_drewN | apply Kd.R_drew)); exact ac.out))) (Kd.R_lt (by (with_reducible repeat (first | apply Kd.R_alloc | apply Kd.R_drewN | apply Kd.R_drew)); exact a9.out))) (below_size (by repeat (first | (with_reducible first | exact HB.out | apply below_alloc | apply pw_below_drewN | apply below_drew1 | refine below_set ?_ ad.out) | exact HB.out)))); have n3_ := Aside0.mk (blk_below (g := ab) (by (with_reducible repeat (first | refine blk_drewN ?_ _ | refine blk_drew ?_ | refine blk_alloc ?_ _)); exact aa.out) hb); have n4_ := Aside0.mk (below_step (by repeat (first | (with_reducible first | exact HB.out | apply below_alloc | apply pw_below_drewN | apply below_drew1 | refine below_set ?_ ad.out) | exact HB.out)) hb); clear ac; clear a9; clear aa; clear HB; have ac := n0_; have a9 := n1_; have ag := n2_; have aa := n3_; have HB := n4_; clear n0_ n1_ n2_ n3_ n4_; (try clear hb); (try clear bg); (try clear hk); (try clear hi); (try clear ho0); obtain ⟨Ao24, co24, eo24⟩ := Kd.R_slice ag.out; subst eo24; obtain ⟨Ao25, co25, eo25⟩ := Kd.R_slice a9.out; subst eo25) | ((with_reducible refine gate_callee (f := 28) rfl ?_); refine goesL_ (some 28) rfl rfl Try.func28 (by kernel_rfl) rfl #[.slice Ao25 bc.length co25, .int .i64 (t302.length : Int), .int .i64 2] rfl (by (try simp only [List.map_toArray, List.map_cons, List.map_nil]); first | done | rfl) ?_; (with_reducible refine (wire_number.calls k (fun k_ => some k_ = (.slice Ao25 bc.length co25 : Value).ownBlock) (.slice Ao25 bc.length co25) bc (t302.length : Int) 2 t305 w _ ?side1 ?side2 A9.out).mono ?_); (case side1 => repeat (first | (with_reducible first | exact HB.out | apply below_alloc | apply pw_below_drewN | apply below_drew1 | refine below_set ?_ ad.out) | exact HB.out)); (case side2 => exact Kd.R_tight rfl a9.out); rintro e w26 ⟨v306, rfl, ho0, hb, hkp⟩; refine ⟨_, rfl, ?_⟩; have n0_ := Aside0.mk (blk_kept (by (with_reducible repeat (first | refine blk_drewN ?_ _ | refine blk_drew ?_ | refine blk_alloc ?_ _)); exact aa.out) hkp (fun hs_ => (fun e_ => (Kd.R_ne a9.out aa.out (by decide)) e_) hs_)); have n1_ := Aside0.mk (Kd.R_mono (ok' := fun k_ => some k_ ≠ (.slice Ao24 t302.length co24 : Value).ownBlock ∧ some k_ ≠ (v306 : Value).ownBlock) (Kd.R_keptB (ac.out) hkp (fun k_ hk_ hs_ => (hk_.1.2) hs_)) (fun k_ hk_ => ⟨hk_.1.2, fun e_ => Or.elim (ho0.1 k_ e_.symm) (fun hs_ => hk_.2.1 hs_) (fun hn_ => Nat.not_le.2 hk_.2.2 hn_)⟩)); have n2_ := Aside0.mk (Kd.R_mono (ok' := fun k_ => some k_ ≠ (.slice bd t293.length be : Value).ownBlock ∧ some k_ ≠ (v306 : Value).ownBlock) (Kd.R_keptB (ag.out) hkp (fun k_ hk_ hs_ => (hk_.2) hs_)) (fun k_ hk_ => ⟨hk_.1.1.2, fun e_ => Or.elim (ho0.1 k_ e_.symm) (fun hs_ => hk_.2.1 hs_) (fun hn_ => Nat.not_le.2 hk_.2.2 hn_)⟩)); have n3_ := Aside0.mk (Kd.R_mono (ok' := fun k_ => some k_ ≠ (.slice bd t293.length be : Value).ownBlock ∧ some k_ ≠ (.slice Ao24 t302.length co24 : Value).ownBlock) ho0 (fun k_ hk_ => ⟨Or.elim hk_ (fun hs_ => fun e_ => (((ac.out).1 k_ e_.symm).1.2) hs_) (fun hn_ => (Kd.fresh' (Kd.R_lt (by (with_reducible repeat (first | apply Kd.R_alloc | apply Kd.R_drewN | apply Kd.R_drew)); exact ac.out)) k_ hn_)), Or.elim hk_ (fun hs_ => fun e_ => (((ag.out).1 k_ e_.symm).2) hs_) (fun hn_ => (Kd.fresh' (Kd.R_lt (by (with_reducible repeat (first | apply Kd.R_alloc | apply Kd.R_drewN | apply Kd.R_drew)); exact ag.out)) k_ hn_))⟩)); have n4_ := Aside0.mk (hb); clear aa; clear ac; clear ag; clear HB; clear a9; have aa := n0_; have ac := n1_; have ag := n2_; have HO307 := n3_; have HB := n4_; clear n0_ n1_ n2_ n3_ n4_; (try clear hb); (try clear hkp); (try clear ho0)) | ((with_reducible refine gate_builtin (b := .append) (xs := #[.tmp 28, .tmp 29]) rfl ?_); at_builtin; refine Kd.R_append_rows (Kd.int .u8) (w0 := w) w.heap.size rfl (.tmp 28) (.tmp 29) 22 5 (.int .u8 0) 1 rfl Try.underlying22 info5 rfl (by decide) (by omega) v306 t305 t302 _ _ _ (fun k_ => some k_ ≠ (.slice bd t293.length be : Value).ownBlock ∧ some k_ ≠ (.slice Ao24 t302.length co24 : Value).ownBlock) (fun _ => False) rfl rfl ?aO ?aR (fun _ _ h => h) (fun _ h => h.elim) ?aF ?aB ?aS ?aL ?_; (case aR => repeat (first | exact (Kd.R_reads' ag.out).2.2 | (with_reducible refine Kd.C_alloc ?_ _) | (with_reducible refine Kd.C_drewN ?_ _) | (with_reducible refine Kd.C_drew ?_))); (case aB => exact (by repeat (first | (with_reducible first | exact HB.out | apply below_alloc | apply pw_below_drewN | apply below_drew1 | refine below_set ?_ ad.out) | exact HB.out))); (case aF => exact (fun k_ hk => ⟨Kd.fresh' (Kd.R_lt (by (with_reducible repeat (first | apply Kd.R_alloc | apply Kd.R_drewN | apply Kd.R_drew)); exact ac.out)) k_ hk, Kd.fresh' (Kd.R_lt (by (with_reducible repeat (first | apply Kd.R_alloc | apply Kd.R_drewN | apply Kd.R_drew)); exact ag.out)) k_ hk⟩)); (case aO => exact (by (with_reducible repeat (first | apply Kd.R_alloc | apply Kd.R_drewN | apply Kd.R_drew)); exact HO307.out)); (case aS => exact (below_size (by repeat (first | (with_reducible first | exact HB.out | apply below_alloc | apply pw_below_drewN | apply below_drew1 | refine below_set ?_ ad.out) | exact HB.out)))); (case aL => have := LMc10.out; omega); intro v309 w27 ho hb hg hat; rw [← Ny308.out] at ho; replace aa := Aside0.mk (blk_grown (g := ab) (o := .cells #[.slice ao af.length ap, .slice aq ae.length ar, .int .i64 ak, .int .i64 al, .int .i64 am, .slice au ah.length av, .slice aw ai.length ax, .int .i64 an, .slice ay aj.length az] 47 (0, 0)) (by (with_reducible repeat (first | refine blk_drewN ?_ _ | refine blk_drew ?_ | refine blk_alloc ?_ _)); exact aa.out) hg (Kd.R_ne HO307.out aa.out (by decide))); replace ac := Aside0.mk (Kd.R_after (ok := (fun k_ => some k_ ≠ (.slice Ao24 t302.length co24 : Value).ownBlock)) (by (with_reducible repeat (first | apply Kd.R_alloc | apply Kd.R_drewN | apply Kd.R_drew)); exact ac.out) hg hat); replace ag := Aside0.mk (Kd.R_after (ok := (fun k_ => some k_ ≠ (.slice bd t293.length be : Value).ownBlock)) (by (with_reducible repeat (first | apply Kd.R_alloc | apply Kd.R_drewN | apply Kd.R_drew)); exact ag.out) hg hat); replace HB := Aside0.mk (hb); have HO310 := Aside0.mk (ho); clear HO307; clear ho hb hg hat; have hcz28_0 : w27.cell? ⟨ab, 0, none⟩ = some (.slice ao af.length ap) := (blk_cell aa.out 0).trans rfl; have hcz28_1 : w27.cell? ⟨ab, 1, none⟩ = some (.slice aq ae.length ar) := (blk_cell aa.out 1).trans rfl; have hcz28_2 : w27.cell? ⟨ab, 2, none⟩ = some (.int .i64 ak) := (blk_cell aa.out 2).trans rfl; have hcz28_3 : w27.cell? ⟨ab, 3, none⟩ = some (.int .i64 al) := (blk_cell aa.out 3).trans rfl; have hcz28_4 : w27.cell? ⟨ab, 4, none⟩ = some (.int .i64 am) := (blk_cell aa.out 4).trans rfl; have hcz28_5 : w27.cell? ⟨ab, 5, none⟩ = some (.slice au ah.length av) := (blk_cell aa.out 5).trans rfl; have hcz28_6 : w27.cell? ⟨ab, 6, none⟩ = some (.slice aw ai.length ax) := (blk_cell aa.out 6).trans rfl; have hcz28_7 : w27.cell? ⟨ab, 7, none⟩ = some (.int .i64 an) := (blk_cell aa.out 7).trans rfl; have hcz28_8 : w27.cell? ⟨ab, 8, none⟩ = some (.slice ay aj.length az) := (blk_cell aa.out 8).trans rfl; have hfz28_0 := blk_frozen aa.out 0; have hfz28_1 := blk_frozen aa.out 1; have hfz28_2 := blk_frozen aa.out 2; have hfz28_3 := blk_frozen aa.out 3; have hfz28_4 := blk_frozen aa.out 4; have hfz28_5 := blk_frozen aa.out 5; have hfz28_6 := blk_frozen aa.out 6; have hfz28_7 := blk_frozen aa.out 7; have hfz28_8 := blk_frozen aa.out 8) | ((with_reducible refine gate_callee (f := 35) rfl ?_); refine goesL_ (some 34) rfl rfl Try.func35 (by kernel_rfl) rfl #[.slice aq ae.length ar] rfl (by (try simp only [List.map_toArray, List.map_cons, List.map_nil]); first | done | rfl) ?_; (with_reducible refine (wire_prefixes.calls k _ _ ae t311 _ ?side1 ?side2 A11.out).mono ?_); (case side1 => repeat (first | exact (Kd.C_below HR0_1.out HB.out) | (with_reducible refine Kd.C_alloc ?_ _) | (with_reducible refine Kd.C_drewN ?_ _) | (with_reducible refine Kd.C_drew ?_))); (case side2 => exact HC0_1.out); rintro e w29 ⟨v312, rfl, ho0, hb⟩; refine ⟨_, rfl, ?_⟩; have n0_ := Aside0.mk (Kd.R_elder' (by (with_reducible repeat (first | apply Kd.R_alloc | apply Kd.R_drewN | apply Kd.R_drew)); exact ac.out) (Kd.R_base ho0) hb); have n1_ := Aside0.mk (Kd.R_elder' (by (with_reducible repeat (first | apply Kd.R_alloc | apply Kd.R_drewN | apply Kd.R_drew)); exact ag.out) (Kd.R_base ho0) hb); have n2_ := Aside0.mk (Kd.R_elder' (by (with_reducible repeat (first | apply Kd.R_alloc | apply Kd.R_drewN | apply Kd.R_drew)); exact HO310.out) (Kd.R_base ho0) hb); have n3_ := Aside0.mk (Kd.R_lower (Kd.R_new' (Kd.R_new' (Kd.R_new' ho0 (Kd.R_lt (by (with_reducible repeat (first | apply Kd.R_alloc | apply Kd.R_drewN | apply Kd.R_drew)); exact ac.out))) (Kd.R_lt (by (with_reducible repeat (first | apply Kd.R_alloc | apply Kd.R_drewN | apply Kd.R_drew)); exact ag.out))) (Kd.R_lt (by (with_reducible repeat (first | apply Kd.R_alloc | apply Kd.R_drewN | apply Kd.R_drew)); exact HO310.out))) (below_size (by repeat (first | (with_reducible first | exact HB.out | apply below_alloc | apply pw_below_drewN | apply below_drew1 | refine below_set ?_ ad.out) | exact HB.out)))); have n4_ := Aside0.mk (blk_below (g := ab) (by (with_reducible repeat (first | refine blk_drewN ?_ _ | refine blk_drew ?_ | refine blk_alloc ?_ _)); exact aa.out) hb); have n5_ := Aside0.mk (below_step (by repeat (first | (with_reducible first | exact HB.out | apply below_alloc | apply pw_below_drewN | apply below_drew1 | refine below_set ?_ ad.out) | exact HB.out)) hb); clear ac; clear ag; clear HO310; clear aa; clear HB; have ac := n0_; have ag := n1_; have HO310 := n2_; have ba := n3_; have aa := n4_; have HB := n5_; clear n0_ n1_ n2_ n3_ n4_ n5_; (try clear hb); (try clear bg); (try clear hk); (try clear hi); (try clear ho0); obtain ⟨Ao31, co31, eo31⟩ := Kd.R_slice ba.out; subst eo31) | ((with_reducible refine gate_builtin (b := .append) (xs := #[.tmp 31, .tmp 34]) rfl ?_); at_builtin; refine Kd.R_append_rows (Kd.int .u8) (w0 := w) w.heap.size rfl (.tmp 31) (.tmp 34) 22 5 (.int .u8 0) 1 rfl Try.underlying22 info5 rfl (by decide) (by omega) v309 bf t311 _ _ _ (fun k_ => some k_ ≠ (.slice bd t293.length be : Value).ownBlock ∧ some k_ ≠ (.slice Ao24 t302.length co24 : Value).ownBlock ∧ some k_ ≠ (.slice Ao31 t311.length co31 : Value).ownBlock) (fun _ => False) rfl rfl ?aO ?aR (fun _ _ h => h) (fun _ h => h.elim) ?aF ?aB ?aS ?aL ?_; (case aR => repeat (first | exact (Kd.R_reads' ba.out).2.2 | (with_reducible refine Kd.C_alloc ?_ _) | (with_reducible refine Kd.C_drewN ?_ _) | (with_reducible refine Kd.C_drew ?_))); (case aB => exact (by repeat (first | (with_reducible first | exact HB.out | apply below_alloc | apply pw_below_drewN | apply below_drew1 | refine below_set ?_ ad.out) | exact HB.out))); (case aF => exact (fun k_ hk => ⟨Kd.fresh' (Kd.R_lt (by (with_reducible repeat (first | apply Kd.R_alloc | apply Kd.R_drewN | apply Kd.R_drew)); exact ac.out)) k_ hk, Kd.fresh' (Kd.R_lt (by (with_reducible repeat (first | apply Kd.R_alloc | apply Kd.R_drewN | apply Kd.R_drew)); exact ag.out)) k_ hk, Kd.fresh' (Kd.R_lt (by (with_reducible repeat (first | apply Kd.R_alloc | apply Kd.R_drewN | apply Kd.R_drew)); exact ba.out)) k_ hk⟩)); (case aO => exact (by (with_reducible repeat (first | apply Kd.R_alloc | apply Kd.R_drewN | apply Kd.R_drew)); exact Kd.R_mono HO310.out (fun _ hk => ⟨hk.1.1, ⟨hk.1.2, hk.2⟩⟩))); (case aS => exact (below_size (by repeat (first | (with_reducible first | exact HB.out | apply below_alloc | apply pw_below_drewN | apply below_drew1 | refine below_set ?_ ad.out) | exact HB.out)))); (case aL => have := LMc12.out; omega); intro v315 w30 ho hb hg hat; rw [← Ny314.out] at ho; replace aa := Aside0.mk (blk_grown (g := ab) (o := .cells #[.slice ao af.length ap, .slice aq ae.length ar, .int .i64 ak, .int .i64 al, .int .i64 am, .slice au ah.length av, .slice aw ai.length ax, .int .i64 an, .slice ay aj.length az] 47 (0, 0)) (by (with_reducible repeat (first | refine blk_drewN ?_ _ | refine blk_drew ?_ | refine blk_alloc ?_ _)); exact aa.out) hg (Kd.R_ne HO310.out aa.out (by decide))); replace ac := Aside0.mk (Kd.R_after (ok := (fun k_ => some k_ ≠ (.slice Ao24 t302.length co24 : Value).ownBlock ∧ some k_ ≠ (.slice Ao31 t311.length co31 : Value).ownBlock)) (by (with_reducible repeat (first | apply Kd.R_alloc | apply Kd.R_drewN | apply Kd.R_drew)); exact Kd.R_mono ac.out (fun _ hk => ⟨⟨hk.1.1, hk.2⟩, hk.1.2⟩)) hg hat); replace ag := Aside0.mk (Kd.R_after (ok := (fun k_ => some k_ ≠ (.slice bd t293.length be : Value).ownBlock ∧ some k_ ≠ (.slice Ao31 t311.length co31 : Value).ownBlock)) (by (with_reducible repeat (first | apply Kd.R_alloc | apply Kd.R_drewN | apply Kd.R_drew)); exact Kd.R_mono ag.out (fun _ hk => ⟨⟨hk.1.1, hk.2⟩, hk.1.2⟩)) hg hat); replace ba := Aside0.mk (Kd.R_after (ok := (fun k_ => some k_ ≠ (.slice bd t293.length be : Value).ownBlock ∧ some k_ ≠ (.slice Ao24 t302.length co24 : Value).ownBlock)) (by (with_reducible repeat (first | apply Kd.R_alloc | apply Kd.R_drewN | apply Kd.R_drew)); exact Kd.R_mono ba.out (fun _ hk => ⟨⟨hk.1.1.2, hk.1.2⟩, hk.2⟩)) hg hat); replace HB := Aside0.mk (hb); have HO316 := Aside0.mk (ho); clear HO310; clear ho hb hg hat; obtain ⟨Ao32, co32, eo32⟩ := Kd.R_slice HO316.out; subst eo32) | ((with_reducible refine gate_callee (f := 37) rfl ?_); refine goesL_ (some 36) rfl rfl Try.func37 (by kernel_rfl) rfl #[.int .u8 2, .slice Ao32 y314.length co32] rfl (by (try simp only [List.map_toArray, List.map_cons, List.map_nil]); first | done | rfl) ?_; (with_reducible refine (wire_framed.calls 2 _ _ y314 t317 _ ?side1 ?side2 A13.out).mono ?_); (case side1 => repeat (first | exact (Kd.R_reads' HO316.out).2.2 | (with_reducible refine Kd.C_alloc ?_ _) | (with_reducible refine Kd.C_drewN ?_ _) | (with_reducible refine Kd.C_drew ?_))); (case side2 => exact (Kd.R_reads' HO316.out).2.1); rintro e w33 ⟨v318, rfl, ho0, hb⟩; refine ⟨_, rfl, ?_⟩; have n0_ := Aside0.mk (Kd.R_elder' (by (with_reducible repeat (first | apply Kd.R_alloc | apply Kd.R_drewN | apply Kd.R_drew)); exact ac.out) (Kd.R_base ho0) hb); have n1_ := Aside0.mk (Kd.R_elder' (by (with_reducible repeat (first | apply Kd.R_alloc | apply Kd.R_drewN | apply Kd.R_drew)); exact ag.out) (Kd.R_base ho0) hb); have n2_ := Aside0.mk (Kd.R_elder' (by (with_reducible repeat (first | apply Kd.R_alloc | apply Kd.R_drewN | apply Kd.R_drew)); exact ba.out) (Kd.R_base ho0) hb); have n3_ := Aside0.mk (Kd.R_elder' (by (with_reducible repeat (first | apply Kd.R_alloc | apply Kd.R_drewN | apply Kd.R_drew)); exact HO316.out) (Kd.R_base ho0) hb); have n4_ := Aside0.mk (Kd.R_lower (Kd.R_new' (Kd.R_new' (Kd.R_new' (Kd.R_new' ho0 (Kd.R_lt (by (with_reducible repeat (first | apply Kd.R_alloc | apply Kd.R_drewN | apply Kd.R_drew)); exact ac.out))) (Kd.R_lt (by (with_reducible repeat (first | apply Kd.R_alloc | apply Kd.R_drewN | apply Kd.R_drew)); exact ag.out))) (Kd.R_lt (by (with_reducible repeat (first | apply Kd.R_alloc | apply Kd.R_drewN | apply Kd.R_drew)); exact ba.out))) (Kd.R_lt (by (with_reducible repeat (first | apply Kd.R_alloc | apply Kd.R_drewN | apply Kd.R_drew)); exact HO316.out))) (below_size (by repeat (first | (with_reducible first | exact HB.out | apply below_alloc | apply pw_below_drewN | apply below_drew1 | refine below_set ?_ ad.out) | exact HB.out)))); have n5_ := Aside0.mk (blk_below (g := ab) (by (with_reducible repeat (first | refine blk_drewN ?_ _ | refine blk_drew ?_ | refine blk_alloc ?_ _)); exact aa.out) hb); have n6_ := Aside0.mk (below_step (by repeat (first | (with_reducible first | exact HB.out | apply below_alloc | apply pw_below_drewN | apply below_drew1 | refine below_set ?_ ad.out) | exact HB.out)) hb); clear ac; clear ag; clear ba; clear HO316; clear aa; clear HB; have ac := n0_; have ag := n1_; have ba := n2_; have HO316 := n3_; have HO319 := n4_; have aa := n5_; have HB := n6_; clear n0_ n1_ n2_ n3_ n4_ n5_ n6_; (try clear hb); (try clear bg); (try clear hk); (try clear hi); (try clear ho0)))
      go_ret2
      exact ⟨_, by first | rfl | (simp [errW_none, errW_some] <;> rfl) | (simp [*, errW_none, errW_some] <;> rfl), by (with_reducible repeat (first | apply Kd.R_alloc | apply Kd.R_drewN | apply Kd.R_drew)); exact Kd.R_mono HO319.out (fun _ hk => trivial), by repeat (first | (with_reducible first | exact HB.out | apply below_alloc | apply pw_below_drewN | apply below_drew1 | refine below_set ?_ ad.out) | exact HB.out)⟩
     ·rw [if_neg c12] at H
      exact absurd H (by simp)
    ·rw [if_neg c10] at H
     exact absurd H (by simp)
   ·rw [if_neg c7] at H
    have c7b0 : decide (0 < (ae.length : Int)) = false := decide_eq_false c7
    have c7b1 : decide (0 < ae.length) = false := decide_eq_false (by omega)
    clear c7
    replace H := Option.bind_eq_some_iff.mp H
    obtain ⟨t320, A340, H⟩ := H
    (try dsimp only at H)
    have A34 := Aside0.mk A340
    clear A340
    replace H := Option.bind_eq_some_iff.mp H
    obtain ⟨t323, A350, H⟩ := H
    (try dsimp only at H)
    have A35 := Aside0.mk A350
    clear A350
    by_cases c36 : t320.length + t323.length < 140737488355328
    ·rw [if_pos c36] at H
     have LMc36 := Aside0.mk c36
     clear c36
     obtain ⟨y326, hy326⟩ : ∃ y_ : List Int, y_ = (t320 ++ t323) := ⟨_, rfl⟩
     replace H : ((wire_framed.f 2 y326).bind fun t329 => (some (t329, 0))) = some (r1, r2) := by first | (rw [hy326]; with_reducible exact H) | (have H2_ := (Option.bind_some _ _).symm.trans H; rw [hy326]; with_reducible exact H2_) | (have H2_ := (Option.bind_some _ _).symm.trans H; with_reducible exact H2_) | with_reducible exact H | (rw [hy326]; exact H) | exact H
     have Ny326 := Aside0.mk hy326
     clear hy326
     replace H := Option.bind_eq_some_iff.mp H
     obtain ⟨t329, A370, H⟩ := H
     replace H : (some (t329, 0)) = some (r1, r2) := H
     have A37 := Aside0.mk A370
     clear A370
     simp only [Option.some.injEq, Prod.mk.injEq] at H
     obtain ⟨rfl, rfl⟩ := H
     go_enter Try.func17, Try.ntmps17
     go_wp2_with (first | ((with_reducible refine gate_dst (N := 1) rfl ?_); refine box_event ?hg (N := 1) ?hd (cs := #[.slice ao af.length ap, .slice aq ae.length ar, .int .i64 ak, .int .i64 al, .int .i64 am, .slice au ah.length av, .slice aw ai.length ax, .int .i64 an, .slice ay aj.length az]) (t := 47) ?hr ?_; (case hd => rfl); (case hg => rfl); (case hr => first | (go_simp; done) | (go_simp; rfl)); intro ab hg w38 hbox hb; have n0_ := Aside0.mk (below_step (by repeat (first | (with_reducible first | exact HB.out | apply below_alloc | apply pw_below_drewN | apply below_drew1) | exact HB.out)) hb); have n1_ := Aside0.mk (hbox); have n2_ := Aside0.mk ((by rw [hg]; exact (below_size (by repeat (first | (with_reducible first | exact HB.out | apply below_alloc | apply pw_below_drewN | apply below_drew1) | exact HB.out))) : w.heap.size ≤ ab)); have n3_ := Aside0.mk ((by rw [hg]; exact (below_size (by repeat (first | (with_reducible first | exact HB.out | apply below_alloc | apply pw_below_drewN | apply below_drew1) | exact HB.out))) : w.heap.size ≤ ab)); clear HB; have HB := n0_; have aa := n1_; have GW291 := n2_; have ad := n3_; clear n0_ n1_ n2_ n3_; clear hb hbox hg; have hcz39_0 : w38.cell? ⟨ab, 0, none⟩ = some (.slice ao af.length ap) := (blk_cell aa.out 0).trans rfl; have hcz39_1 : w38.cell? ⟨ab, 1, none⟩ = some (.slice aq ae.length ar) := (blk_cell aa.out 1).trans rfl; have hcz39_2 : w38.cell? ⟨ab, 2, none⟩ = some (.int .i64 ak) := (blk_cell aa.out 2).trans rfl; have hcz39_3 : w38.cell? ⟨ab, 3, none⟩ = some (.int .i64 al) := (blk_cell aa.out 3).trans rfl; have hcz39_4 : w38.cell? ⟨ab, 4, none⟩ = some (.int .i64 am) := (blk_cell aa.out 4).trans rfl; have hcz39_5 : w38.cell? ⟨ab, 5, none⟩ = some (.slice au ah.length av) := (blk_cell aa.out 5).trans rfl; have hcz39_6 : w38.cell? ⟨ab, 6, none⟩ = some (.slice aw ai.length ax) := (blk_cell aa.out 6).trans rfl; have hcz39_7 : w38.cell? ⟨ab, 7, none⟩ = some (.int .i64 an) := (blk_cell aa.out 7).trans rfl; have hcz39_8 : w38.cell? ⟨ab, 8, none⟩ = some (.slice ay aj.length az) := (blk_cell aa.out 8).trans rfl; have hfz39_0 := blk_frozen aa.out 0; have hfz39_1 := blk_frozen aa.out 1; have hfz39_2 := blk_frozen aa.out 2; have hfz39_3 := blk_frozen aa.out 3; have hfz39_4 := blk_frozen aa.out 4; have hfz39_5 := blk_frozen aa.out 5; have hfz39_6 := blk_frozen aa.out 6; have hfz39_7 := blk_frozen aa.out 7; have hfz39_8 := blk_frozen aa.out 8) | ((with_reducible refine gate_callee (f := 19) rfl ?_); refine goesL_ (some 8) rfl rfl Try.func19 (by kernel_rfl) rfl #[.agg #[.slice ao af.length ap, .slice aq ae.length ar, .int .i64 ak, .int .i64 al, .int .i64 am, .slice au ah.length av, .slice aw ai.length ax, .int .i64 an, .slice ay aj.length az]] rfl (by (try simp only [List.map_toArray, List.map_cons, List.map_nil]); first | done | rfl) ?_; (with_reducible refine (wire_May.calls k _ _ af _ _ ae ak al am _ _ ah _ _ ai an _ _ aj true _ ?side1 ?side2 ?side3 ?side4 ?side5 ?side6 ?side7 ?side8 ?side9 ?side10 A2.out).mono ?_); (case side1 | side3 | side5 | side7 | side9 => repeat (first | exact (Kd.C_below HR0_0.out HB.out) | exact (Kd.C_below HR0_1.out HB.out) | exact (Kd.C_below HR0_5.out HB.out) | exact (Kd.C_below HR0_6.out HB.out) | exact (Kd.C_below HR0_8.out HB.out) | (with_reducible refine Kd.C_alloc ?_ _) | (with_reducible refine Kd.C_drewN ?_ _) | (with_reducible refine Kd.C_drew ?_))); (case side2 | side4 | side6 | side8 | side10 => first | exact HC0_0.out | exact HC0_1.out | exact HC0_5.out | exact HC0_6.out | exact HC0_8.out); rintro e w40 ⟨rfl, hb⟩; refine ⟨_, rfl, ?_⟩; replace aa := Aside0.mk (blk_below (g := ab) (by (with_reducible repeat (first | refine blk_drewN ?_ _ | refine blk_drew ?_ | refine blk_alloc ?_ _)); exact aa.out) hb); replace HB := Aside0.mk (below_step (by repeat (first | (with_reducible first | exact HB.out | apply below_alloc | apply pw_below_drewN | apply below_drew1 | refine below_set ?_ ad.out) | exact HB.out)) hb); (try clear hb); (try clear bg); (try clear hk); (try clear hi); have hcz41_0 : w40.cell? ⟨ab, 0, none⟩ = some (.slice ao af.length ap) := (blk_cell aa.out 0).trans rfl; have hcz41_1 : w40.cell? ⟨ab, 1, none⟩ = some (.slice aq ae.length ar) := (blk_cell aa.out 1).trans rfl; have hcz41_2 : w40.cell? ⟨ab, 2, none⟩ = some (.int .i64 ak) := (blk_cell aa.out 2).trans rfl; have hcz41_3 : w40.cell? ⟨ab, 3, none⟩ = some (.int .i64 al) := (blk_cell aa.out 3).trans rfl; have hcz41_4 : w40.cell? ⟨ab, 4, none⟩ = some (.int .i64 am) := (blk_cell aa.out 4).trans rfl; have hcz41_5 : w40.cell? ⟨ab, 5, none⟩ = some (.slice au ah.length av) := (blk_cell aa.out 5).trans rfl; have hcz41_6 : w40.cell? ⟨ab, 6, none⟩ = some (.slice aw ai.length ax) := (blk_cell aa.out 6).trans rfl; have hcz41_7 : w40.cell? ⟨ab, 7, none⟩ = some (.int .i64 an) := (blk_cell aa.out 7).trans rfl; have hcz41_8 : w40.cell? ⟨ab, 8, none⟩ = some (.slice ay aj.length az) := (blk_cell aa.out 8).trans rfl; have hfz41_0 := blk_frozen aa.out 0; have hfz41_1 := blk_frozen aa.out 1; have hfz41_2 := blk_frozen aa.out 2; have hfz41_3 := blk_frozen aa.out 3; have hfz41_4 := blk_frozen aa.out 4; have hfz41_5 := blk_frozen aa.out 5; have hfz41_6 := blk_frozen aa.out 6; have hfz41_7 := blk_frozen aa.out 7; have hfz41_8 := blk_frozen aa.out 8) | ((with_reducible refine gate_callee (f := 35) rfl ?_); refine goesL_ (some 12) rfl rfl Try.func35 (by kernel_rfl) rfl #[.slice ao af.length ap] rfl (by (try simp only [List.map_toArray, List.map_cons, List.map_nil]); first | done | rfl) ?_; (with_reducible refine (wire_prefixes.calls k _ _ af t293 _ ?side1 ?side2 A4.out).mono ?_); (case side1 => repeat (first | exact (Kd.C_below HR0_0.out HB.out) | (with_reducible refine Kd.C_alloc ?_ _) | (with_reducible refine Kd.C_drewN ?_ _) | (with_reducible refine Kd.C_drew ?_))); (case side2 => exact HC0_0.out); rintro e w42 ⟨v294, rfl, ho0, hb⟩; refine ⟨_, rfl, ?_⟩; have ac := Aside0.mk (Kd.R_lower ho0 (below_size (by repeat (first | (with_reducible first | exact HB.out | apply below_alloc | apply pw_below_drewN | apply below_drew1 | refine below_set ?_ ad.out) | exact HB.out)))); replace aa := Aside0.mk (blk_below (g := ab) (by (with_reducible repeat (first | refine blk_drewN ?_ _ | refine blk_drew ?_ | refine blk_alloc ?_ _)); exact aa.out) hb); replace HB := Aside0.mk (below_step (by repeat (first | (with_reducible first | exact HB.out | apply below_alloc | apply pw_below_drewN | apply below_drew1 | refine below_set ?_ ad.out) | exact HB.out)) hb); (try clear hb); (try clear bg); (try clear hk); (try clear hi); (try clear ho0); obtain ⟨Ao43, co43, eo43⟩ := Kd.R_slice ac.out; subst eo43) | ((with_reducible refine gate_callee (f := 28) rfl ?_); refine goesL_ (some 15) rfl rfl Try.func28 (by kernel_rfl) rfl #[.slice none 0 0, .int .i64 (t293.length : Int), .int .i64 2] rfl (by (try simp only [List.map_toArray, List.map_cons, List.map_nil]); first | done | rfl) ?_; (refine (wire_number.calls k (fun k_ => some k_ = (.slice none 0 0 : Value).ownBlock) (.slice none 0 0) ([] : List Int) (t293.length : Int) 2 t296 w _ ?side1 ?side2 A5.out).mono ?_); (case side1 => repeat (first | (with_reducible first | exact HB.out | apply below_alloc | apply pw_below_drewN | apply below_drew1 | refine below_set ?_ ad.out) | exact HB.out)); (case side2 => exact Kd.R_nil _ _ _ _ _); rintro e w44 ⟨v297, rfl, ho0, hb, hkp⟩; refine ⟨_, rfl, ?_⟩; have n0_ := Aside0.mk (blk_kept (by (with_reducible repeat (first | refine blk_drewN ?_ _ | refine blk_drew ?_ | refine blk_alloc ?_ _)); exact aa.out) hkp (fun hs_ => (fun e_ => by simp [Value.ownBlock] at e_) hs_)); have n1_ := Aside0.mk (Kd.R_mono (ok' := fun k_ => some k_ ≠ (v297 : Value).ownBlock) (Kd.R_keptB (ac.out) hkp (fun k_ hk_ hs_ => (fun e_ => by simp [Value.ownBlock] at e_) hs_)) (fun k_ hk_ => fun e_ => Or.elim (ho0.1 k_ e_.symm) (fun hs_ => hk_.2.1 hs_) (fun hn_ => Nat.not_le.2 hk_.2.2 hn_))); have n2_ := Aside0.mk (Kd.R_mono (ok' := fun k_ => some k_ ≠ (.slice Ao43 t293.length co43 : Value).ownBlock) ho0 (fun k_ hk_ => Or.elim hk_ (fun hs_ => absurd hs_ (by simp [Value.ownBlock])) (fun hn_ => (Kd.fresh' (Kd.R_lt (by (with_reducible repeat (first | apply Kd.R_alloc | apply Kd.R_drewN | apply Kd.R_drew)); exact ac.out)) k_ hn_)))); have n3_ := Aside0.mk (hb); clear aa; clear ac; clear HB; have aa := n0_; have ac := n1_; have HO298 := n2_; have HB := n3_; clear n0_ n1_ n2_ n3_; (try clear hb); (try clear hkp); (try clear ho0)) | ((with_reducible refine gate_builtin (b := .append) (xs := #[.tmp 15, .tmp 16]) rfl ?_); at_builtin; refine Kd.R_append_rows (Kd.int .u8) (w0 := w) w.heap.size rfl (.tmp 15) (.tmp 16) 22 5 (.int .u8 0) 1 rfl Try.underlying22 info5 rfl (by decide) (by omega) v297 t296 t293 _ _ _ (fun k_ => some k_ ≠ (.slice Ao43 t293.length co43 : Value).ownBlock) (fun _ => False) rfl rfl ?aO ?aR (fun _ _ h => h) (fun _ h => h.elim) ?aF ?aB ?aS ?aL ?_; (case aR => repeat (first | exact (Kd.R_reads' ac.out).2.2 | (with_reducible refine Kd.C_alloc ?_ _) | (with_reducible refine Kd.C_drewN ?_ _) | (with_reducible refine Kd.C_drew ?_))); (case aB => exact (by repeat (first | (with_reducible first | exact HB.out | apply below_alloc | apply pw_below_drewN | apply below_drew1 | refine below_set ?_ ad.out) | exact HB.out))); (case aF => exact (fun k_ hk => Kd.fresh' (Kd.R_lt (by (with_reducible repeat (first | apply Kd.R_alloc | apply Kd.R_drewN | apply Kd.R_drew)); exact ac.out)) k_ hk)); (case aO => exact (by (with_reducible repeat (first | apply Kd.R_alloc | apply Kd.R_drewN | apply Kd.R_drew)); exact HO298.out)); (case aS => exact (below_size (by repeat (first | (with_reducible first | exact HB.out | apply below_alloc | apply pw_below_drewN | apply below_drew1 | refine below_set ?_ ad.out) | exact HB.out)))); (case aL => have := LMc6.out; omega); intro v300 w45 ho hb hg hat; rw [← Ny299.out] at ho; replace aa := Aside0.mk (blk_grown (g := ab) (o := .cells #[.slice ao af.length ap, .slice aq ae.length ar, .int .i64 ak, .int .i64 al, .int .i64 am, .slice au ah.length av, .slice aw ai.length ax, .int .i64 an, .slice ay aj.length az] 47 (0, 0)) (by (with_reducible repeat (first | refine blk_drewN ?_ _ | refine blk_drew ?_ | refine blk_alloc ?_ _)); exact aa.out) hg (Kd.R_ne HO298.out aa.out (by decide))); replace ac := Aside0.mk (Kd.R_after (ok := (fun _ => True)) (by (with_reducible repeat (first | apply Kd.R_alloc | apply Kd.R_drewN | apply Kd.R_drew)); exact Kd.R_mono ac.out (fun _ hk => ⟨trivial, hk⟩)) hg hat); replace HB := Aside0.mk (hb); have a9 := Aside0.mk (ho); clear HO298; clear ho hb hg hat; have hcz46_0 : w45.cell? ⟨ab, 0, none⟩ = some (.slice ao af.length ap) := (blk_cell aa.out 0).trans rfl; have hcz46_1 : w45.cell? ⟨ab, 1, none⟩ = some (.slice aq ae.length ar) := (blk_cell aa.out 1).trans rfl; have hcz46_2 : w45.cell? ⟨ab, 2, none⟩ = some (.int .i64 ak) := (blk_cell aa.out 2).trans rfl; have hcz46_3 : w45.cell? ⟨ab, 3, none⟩ = some (.int .i64 al) := (blk_cell aa.out 3).trans rfl; have hcz46_4 : w45.cell? ⟨ab, 4, none⟩ = some (.int .i64 am) := (blk_cell aa.out 4).trans rfl; have hcz46_5 : w45.cell? ⟨ab, 5, none⟩ = some (.slice au ah.length av) := (blk_cell aa.out 5).trans rfl; have hcz46_6 : w45.cell? ⟨ab, 6, none⟩ = some (.slice aw ai.length ax) := (blk_cell aa.out 6).trans rfl; have hcz46_7 : w45.cell? ⟨ab, 7, none⟩ = some (.int .i64 an) := (blk_cell aa.out 7).trans rfl; have hcz46_8 : w45.cell? ⟨ab, 8, none⟩ = some (.slice ay aj.length az) := (blk_cell aa.out 8).trans rfl; have hfz46_0 := blk_frozen aa.out 0; have hfz46_1 := blk_frozen aa.out 1; have hfz46_2 := blk_frozen aa.out 2; have hfz46_3 := blk_frozen aa.out 3; have hfz46_4 := blk_frozen aa.out 4; have hfz46_5 := blk_frozen aa.out 5; have hfz46_6 := blk_frozen aa.out 6; have hfz46_7 := blk_frozen aa.out 7; have hfz46_8 := blk_frozen aa.out 8; obtain ⟨Ao47, co47, eo47⟩ := Kd.R_slice a9.out; subst eo47) | ((with_reducible refine gate_callee (f := 28) rfl ?_); refine goesL_ (some 28) rfl rfl Try.func28 (by kernel_rfl) rfl #[.slice Ao47 bc.length co47, .int .i64 (0 : Int), .int .i64 2] rfl (by (try simp only [List.map_toArray, List.map_cons, List.map_nil]); first | done | rfl) ?_; (with_reducible refine (wire_number.calls k (fun k_ => some k_ = (.slice Ao47 bc.length co47 : Value).ownBlock) (.slice Ao47 bc.length co47) bc (0 : Int) 2 t320 w _ ?side1 ?side2 A34.out).mono ?_); (case side1 => repeat (first | (with_reducible first | exact HB.out | apply below_alloc | apply pw_below_drewN | apply below_drew1 | refine below_set ?_ ad.out) | exact HB.out)); (case side2 => exact Kd.R_tight rfl a9.out); rintro e w48 ⟨v321, rfl, ho0, hb, hkp⟩; refine ⟨_, rfl, ?_⟩; have n0_ := Aside0.mk (blk_kept (by (with_reducible repeat (first | refine blk_drewN ?_ _ | refine blk_drew ?_ | refine blk_alloc ?_ _)); exact aa.out) hkp (fun hs_ => (fun e_ => (Kd.R_ne a9.out aa.out (by decide)) e_) hs_)); have n1_ := Aside0.mk (Kd.R_mono (ok' := fun k_ => some k_ ≠ (v321 : Value).ownBlock) (Kd.R_keptB (ac.out) hkp (fun k_ hk_ hs_ => (hk_.2) hs_)) (fun k_ hk_ => fun e_ => Or.elim (ho0.1 k_ e_.symm) (fun hs_ => hk_.2.1 hs_) (fun hn_ => Nat.not_le.2 hk_.2.2 hn_))); have n2_ := Aside0.mk (Kd.R_mono (ok' := fun k_ => some k_ ≠ (.slice Ao43 t293.length co43 : Value).ownBlock) ho0 (fun k_ hk_ => Or.elim hk_ (fun hs_ => fun e_ => (((ac.out).1 k_ e_.symm).2) hs_) (fun hn_ => (Kd.fresh' (Kd.R_lt (by (with_reducible repeat (first | apply Kd.R_alloc | apply Kd.R_drewN | apply Kd.R_drew)); exact ac.out)) k_ hn_)))); have n3_ := Aside0.mk (hb); clear aa; clear ac; clear HB; clear a9; have aa := n0_; have ac := n1_; have HO322 := n2_; have HB := n3_; clear n0_ n1_ n2_ n3_; (try clear hb); (try clear hkp); (try clear ho0); have hcz49_0 : w48.cell? ⟨ab, 0, none⟩ = some (.slice ao af.length ap) := (blk_cell aa.out 0).trans rfl; have hcz49_1 : w48.cell? ⟨ab, 1, none⟩ = some (.slice aq ae.length ar) := (blk_cell aa.out 1).trans rfl; have hcz49_2 : w48.cell? ⟨ab, 2, none⟩ = some (.int .i64 ak) := (blk_cell aa.out 2).trans rfl; have hcz49_3 : w48.cell? ⟨ab, 3, none⟩ = some (.int .i64 al) := (blk_cell aa.out 3).trans rfl; have hcz49_4 : w48.cell? ⟨ab, 4, none⟩ = some (.int .i64 am) := (blk_cell aa.out 4).trans rfl; have hcz49_5 : w48.cell? ⟨ab, 5, none⟩ = some (.slice au ah.length av) := (blk_cell aa.out 5).trans rfl; have hcz49_6 : w48.cell? ⟨ab, 6, none⟩ = some (.slice aw ai.length ax) := (blk_cell aa.out 6).trans rfl; have hcz49_7 : w48.cell? ⟨ab, 7, none⟩ = some (.int .i64 an) := (blk_cell aa.out 7).trans rfl; have hcz49_8 : w48.cell? ⟨ab, 8, none⟩ = some (.slice ay aj.length az) := (blk_cell aa.out 8).trans rfl; have hfz49_0 := blk_frozen aa.out 0; have hfz49_1 := blk_frozen aa.out 1; have hfz49_2 := blk_frozen aa.out 2; have hfz49_3 := blk_frozen aa.out 3; have hfz49_4 := blk_frozen aa.out 4; have hfz49_5 := blk_frozen aa.out 5; have hfz49_6 := blk_frozen aa.out 6; have hfz49_7 := blk_frozen aa.out 7; have hfz49_8 := blk_frozen aa.out 8) | ((with_reducible refine gate_builtin (b := .append) (xs := #[.tmp 28, .tmp 29]) rfl ?_); at_builtin; refine Kd.R_append_rows (Kd.int .u8) (w0 := w) w.heap.size rfl (.tmp 28) (.tmp 29) 22 5 (.int .u8 0) 1 rfl Try.underlying22 info5 rfl (by decide) (by omega) v321 t320 ([] : List Int) none 0 0 (fun k_ => some k_ ≠ (.slice Ao43 t293.length co43 : Value).ownBlock) (fun _ => False) rfl rfl ?aO ?aR (fun _ _ h => h) (fun _ h => h.elim) ?aF ?aB ?aS ?aL ?_; (case aR => exact (Kd.R_reads' (Kd.R_nil (Kd.int .u8) 5 _ w.heap.size (fun _ => True))).2.2); (case aB => exact (by repeat (first | (with_reducible first | exact HB.out | apply below_alloc | apply pw_below_drewN | apply below_drew1 | refine below_set ?_ ad.out) | exact HB.out))); (case aF => exact (fun k_ hk => Kd.fresh' (Kd.R_lt (by (with_reducible repeat (first | apply Kd.R_alloc | apply Kd.R_drewN | apply Kd.R_drew)); exact ac.out)) k_ hk)); (case aO => exact (by (with_reducible repeat (first | apply Kd.R_alloc | apply Kd.R_drewN | apply Kd.R_drew)); exact HO322.out)); (case aS => exact (below_size (by repeat (first | (with_reducible first | exact HB.out | apply below_alloc | apply pw_below_drewN | apply below_drew1 | refine below_set ?_ ad.out) | exact HB.out)))); (case aL => have := LMc36.out; omega); intro v321 w48n ho hb hg hat; rw [List.append_nil] at ho; replace aa := Aside0.mk (blk_grown (g := ab) (o := .cells #[.slice ao af.length ap, .slice aq ae.length ar, .int .i64 ak, .int .i64 al, .int .i64 am, .slice au ah.length av, .slice aw ai.length ax, .int .i64 an, .slice ay aj.length az] 47 (0, 0)) (by (with_reducible repeat (first | refine blk_drewN ?_ _ | refine blk_drew ?_ | refine blk_alloc ?_ _)); exact aa.out) hg (Kd.R_ne HO322.out aa.out (by decide))); replace ac := Aside0.mk (Kd.R_mono (ok' := fun k_ => some k_ ≠ (v321 : Value).ownBlock) (Kd.R_after (ok := (fun _ => True)) (by (with_reducible repeat (first | apply Kd.R_alloc | apply Kd.R_drewN | apply Kd.R_drew)); exact Kd.R_mono ac.out (fun _ hk => ⟨trivial, hk⟩)) hg hat) (fun _ hk => hk.2)); replace HB := Aside0.mk (hb); clear HO322; have HO322 := Aside0.mk (ho); clear ho hb hg hat; have hcz48n_0 : w48n.cell? ⟨ab, 0, none⟩ = some (.slice ao af.length ap) := (blk_cell aa.out 0).trans rfl; have hcz48n_1 : w48n.cell? ⟨ab, 1, none⟩ = some (.slice aq ae.length ar) := (blk_cell aa.out 1).trans rfl; have hcz48n_2 : w48n.cell? ⟨ab, 2, none⟩ = some (.int .i64 ak) := (blk_cell aa.out 2).trans rfl; have hcz48n_3 : w48n.cell? ⟨ab, 3, none⟩ = some (.int .i64 al) := (blk_cell aa.out 3).trans rfl; have hcz48n_4 : w48n.cell? ⟨ab, 4, none⟩ = some (.int .i64 am) := (blk_cell aa.out 4).trans rfl; have hcz48n_5 : w48n.cell? ⟨ab, 5, none⟩ = some (.slice au ah.length av) := (blk_cell aa.out 5).trans rfl; have hcz48n_6 : w48n.cell? ⟨ab, 6, none⟩ = some (.slice aw ai.length ax) := (blk_cell aa.out 6).trans rfl; have hcz48n_7 : w48n.cell? ⟨ab, 7, none⟩ = some (.int .i64 an) := (blk_cell aa.out 7).trans rfl; have hcz48n_8 : w48n.cell? ⟨ab, 8, none⟩ = some (.slice ay aj.length az) := (blk_cell aa.out 8).trans rfl; have hfz48n_0 := blk_frozen aa.out 0; have hfz48n_1 := blk_frozen aa.out 1; have hfz48n_2 := blk_frozen aa.out 2; have hfz48n_3 := blk_frozen aa.out 3; have hfz48n_4 := blk_frozen aa.out 4; have hfz48n_5 := blk_frozen aa.out 5; have hfz48n_6 := blk_frozen aa.out 6; have hfz48n_7 := blk_frozen aa.out 7; have hfz48n_8 := blk_frozen aa.out 8) | ((with_reducible refine gate_callee (f := 35) rfl ?_); refine goesL_ (some 34) rfl rfl Try.func35 (by kernel_rfl) rfl #[.slice aq ae.length ar] rfl (by (try simp only [List.map_toArray, List.map_cons, List.map_nil]); first | done | rfl) ?_; (with_reducible refine (wire_prefixes.calls k _ _ ae t323 _ ?side1 ?side2 A35.out).mono ?_); (case side1 => repeat (first | exact (Kd.C_below HR0_1.out HB.out) | (with_reducible refine Kd.C_alloc ?_ _) | (with_reducible refine Kd.C_drewN ?_ _) | (with_reducible refine Kd.C_drew ?_))); (case side2 => exact HC0_1.out); rintro e w50 ⟨v324, rfl, ho0, hb⟩; refine ⟨_, rfl, ?_⟩; have n0_ := Aside0.mk (Kd.R_elder' (by (with_reducible repeat (first | apply Kd.R_alloc | apply Kd.R_drewN | apply Kd.R_drew)); exact ac.out) (Kd.R_base ho0) hb); have n1_ := Aside0.mk (Kd.R_elder' (by (with_reducible repeat (first | apply Kd.R_alloc | apply Kd.R_drewN | apply Kd.R_drew)); exact HO322.out) (Kd.R_base ho0) hb); have n2_ := Aside0.mk (Kd.R_lower (Kd.R_new' (Kd.R_new' ho0 (Kd.R_lt (by (with_reducible repeat (first | apply Kd.R_alloc | apply Kd.R_drewN | apply Kd.R_drew)); exact ac.out))) (Kd.R_lt (by (with_reducible repeat (first | apply Kd.R_alloc | apply Kd.R_drewN | apply Kd.R_drew)); exact HO322.out))) (below_size (by repeat (first | (with_reducible first | exact HB.out | apply below_alloc | apply pw_below_drewN | apply below_drew1 | refine below_set ?_ ad.out) | exact HB.out)))); have n3_ := Aside0.mk (blk_below (g := ab) (by (with_reducible repeat (first | refine blk_drewN ?_ _ | refine blk_drew ?_ | refine blk_alloc ?_ _)); exact aa.out) hb); have n4_ := Aside0.mk (below_step (by repeat (first | (with_reducible first | exact HB.out | apply below_alloc | apply pw_below_drewN | apply below_drew1 | refine below_set ?_ ad.out) | exact HB.out)) hb); clear ac; clear HO322; clear aa; clear HB; have ac := n0_; have HO322 := n1_; have bb := n2_; have aa := n3_; have HB := n4_; clear n0_ n1_ n2_ n3_ n4_; (try clear hb); (try clear bg); (try clear hk); (try clear hi); (try clear ho0); obtain ⟨Ao52, co52, eo52⟩ := Kd.R_slice bb.out; subst eo52) | ((with_reducible refine gate_builtin (b := .append) (xs := #[.tmp 31, .tmp 34]) rfl ?_); at_builtin; refine Kd.R_append_rows (Kd.int .u8) (w0 := w) w.heap.size rfl (.tmp 31) (.tmp 34) 22 5 (.int .u8 0) 1 rfl Try.underlying22 info5 rfl (by decide) (by omega) v321 t320 t323 _ _ _ (fun k_ => some k_ ≠ (.slice Ao43 t293.length co43 : Value).ownBlock ∧ some k_ ≠ (.slice Ao52 t323.length co52 : Value).ownBlock) (fun _ => False) rfl rfl ?aO ?aR (fun _ _ h => h) (fun _ h => h.elim) ?aF ?aB ?aS ?aL ?_; (case aR => repeat (first | exact (Kd.R_reads' bb.out).2.2 | (with_reducible refine Kd.C_alloc ?_ _) | (with_reducible refine Kd.C_drewN ?_ _) | (with_reducible refine Kd.C_drew ?_))); (case aB => exact (by repeat (first | (with_reducible first | exact HB.out | apply below_alloc | apply pw_below_drewN | apply below_drew1 | refine below_set ?_ ad.out) | exact HB.out))); (case aF => exact (fun k_ hk => ⟨Kd.fresh' (Kd.R_lt (by (with_reducible repeat (first | apply Kd.R_alloc | apply Kd.R_drewN | apply Kd.R_drew)); exact ac.out)) k_ hk, Kd.fresh' (Kd.R_lt (by (with_reducible repeat (first | apply Kd.R_alloc | apply Kd.R_drewN | apply Kd.R_drew)); exact bb.out)) k_ hk⟩)); (case aO => exact (by (with_reducible repeat (first | apply Kd.R_alloc | apply Kd.R_drewN | apply Kd.R_drew)); exact HO322.out)); (case aS => exact (below_size (by repeat (first | (with_reducible first | exact HB.out | apply below_alloc | apply pw_below_drewN | apply below_drew1 | refine below_set ?_ ad.out) | exact HB.out)))); (case aL => have := LMc36.out; omega); intro v327 w51 ho hb hg hat; rw [← Ny326.out] at ho; replace aa := Aside0.mk (blk_grown (g := ab) (o := .cells #[.slice ao af.length ap, .slice aq ae.length ar, .int .i64 ak, .int .i64 al, .int .i64 am, .slice au ah.length av, .slice aw ai.length ax, .int .i64 an, .slice ay aj.length az] 47 (0, 0)) (by (with_reducible repeat (first | refine blk_drewN ?_ _ | refine blk_drew ?_ | refine blk_alloc ?_ _)); exact aa.out) hg (Kd.R_ne HO322.out aa.out (by decide))); replace ac := Aside0.mk (Kd.R_after (ok := (fun k_ => some k_ ≠ (.slice Ao52 t323.length co52 : Value).ownBlock)) (by (with_reducible repeat (first | apply Kd.R_alloc | apply Kd.R_drewN | apply Kd.R_drew)); exact Kd.R_mono ac.out (fun _ hk => ⟨hk.2, hk.1⟩)) hg hat); replace bb := Aside0.mk (Kd.R_after (ok := (fun k_ => some k_ ≠ (.slice Ao43 t293.length co43 : Value).ownBlock)) (by (with_reducible repeat (first | apply Kd.R_alloc | apply Kd.R_drewN | apply Kd.R_drew)); exact Kd.R_mono bb.out (fun _ hk => ⟨hk.1.2, hk.2⟩)) hg hat); replace HB := Aside0.mk (hb); have HO328 := Aside0.mk (ho); clear HO322; clear ho hb hg hat; obtain ⟨Ao53, co53, eo53⟩ := Kd.R_slice HO328.out; subst eo53) | ((with_reducible refine gate_callee (f := 37) rfl ?_); refine goesL_ (some 36) rfl rfl Try.func37 (by kernel_rfl) rfl #[.int .u8 2, .slice Ao53 y326.length co53] rfl (by (try simp only [List.map_toArray, List.map_cons, List.map_nil]); first | done | rfl) ?_; (with_reducible refine (wire_framed.calls 2 _ _ y326 t329 _ ?side1 ?side2 A37.out).mono ?_); (case side1 => repeat (first | exact (Kd.R_reads' HO328.out).2.2 | (with_reducible refine Kd.C_alloc ?_ _) | (with_reducible refine Kd.C_drewN ?_ _) | (with_reducible refine Kd.C_drew ?_))); (case side2 => exact (Kd.R_reads' HO328.out).2.1); rintro e w54 ⟨v330, rfl, ho0, hb⟩; refine ⟨_, rfl, ?_⟩; have n0_ := Aside0.mk (Kd.R_elder' (by (with_reducible repeat (first | apply Kd.R_alloc | apply Kd.R_drewN | apply Kd.R_drew)); exact ac.out) (Kd.R_base ho0) hb); have n1_ := Aside0.mk (Kd.R_elder' (by (with_reducible repeat (first | apply Kd.R_alloc | apply Kd.R_drewN | apply Kd.R_drew)); exact bb.out) (Kd.R_base ho0) hb); have n2_ := Aside0.mk (Kd.R_elder' (by (with_reducible repeat (first | apply Kd.R_alloc | apply Kd.R_drewN | apply Kd.R_drew)); exact HO328.out) (Kd.R_base ho0) hb); have n3_ := Aside0.mk (Kd.R_lower (Kd.R_new' (Kd.R_new' (Kd.R_new' ho0 (Kd.R_lt (by (with_reducible repeat (first | apply Kd.R_alloc | apply Kd.R_drewN | apply Kd.R_drew)); exact ac.out))) (Kd.R_lt (by (with_reducible repeat (first | apply Kd.R_alloc | apply Kd.R_drewN | apply Kd.R_drew)); exact bb.out))) (Kd.R_lt (by (with_reducible repeat (first | apply Kd.R_alloc | apply Kd.R_drewN | apply Kd.R_drew)); exact HO328.out))) (below_size (by repeat (first | (with_reducible first | exact HB.out | apply below_alloc | apply pw_below_drewN | apply below_drew1 | refine below_set ?_ ad.out) | exact HB.out)))); have n4_ := Aside0.mk (blk_below (g := ab) (by (with_reducible repeat (first | refine blk_drewN ?_ _ | refine blk_drew ?_ | refine blk_alloc ?_ _)); exact aa.out) hb); have n5_ := Aside0.mk (below_step (by repeat (first | (with_reducible first | exact HB.out | apply below_alloc | apply pw_below_drewN | apply below_drew1 | refine below_set ?_ ad.out) | exact HB.out)) hb); clear ac; clear bb; clear HO328; clear aa; clear HB; have ac := n0_; have bb := n1_; have HO328 := n2_; have HO331 := n3_; have aa := n4_; have HB := n5_; clear n0_ n1_ n2_ n3_ n4_ n5_; (try clear hb); (try clear bg); (try clear hk); (try clear hi); (try clear ho0)))
     go_ret2
     exact ⟨_, by first | rfl | (simp [errW_none, errW_some] <;> rfl) | (simp [*, errW_none, errW_some] <;> rfl), by (with_reducible repeat (first | apply Kd.R_alloc | apply Kd.R_drewN | apply Kd.R_drew)); exact Kd.R_mono HO331.out (fun _ hk => trivial), by repeat (first | (with_reducible first | exact HB.out | apply below_alloc | apply pw_below_drewN | apply below_drew1 | refine below_set ?_ ad.out) | exact HB.out)⟩
    ·rw [if_neg c36] at H
     exact absurd H (by simp)
  ·rw [if_neg c6] at H
   exact absurd H (by simp)
 ·replace c3 := Bool.eq_false_iff.mpr c3
  subst c3
  have H1 : (some (([] : List Int), 1)) = some (r1, r2) := by rw [if_neg (show ¬ (false = true) by decide)] at H; exact H
  clear H
  have H := H1
  clear H1
  simp only [Option.some.injEq, Prod.mk.injEq] at H
  obtain ⟨rfl, rfl⟩ := H
  go_enter Try.func17, Try.ntmps17
  go_wp2_with (first | ((with_reducible refine gate_dst (N := 1) rfl ?_); refine box_event ?hg (N := 1) ?hd (cs := #[.slice ao af.length ap, .slice aq ae.length ar, .int .i64 ak, .int .i64 al, .int .i64 am, .slice au ah.length av, .slice aw ai.length ax, .int .i64 an, .slice ay aj.length az]) (t := 47) ?hr ?_; (case hd => rfl); (case hg => rfl); (case hr => first | (go_simp; done) | (go_simp; rfl)); intro ab hg w55 hbox hb; have n0_ := Aside0.mk (below_step (by repeat (first | (with_reducible first | exact HB.out | apply below_alloc | apply pw_below_drewN | apply below_drew1) | exact HB.out)) hb); have n1_ := Aside0.mk (hbox); have n2_ := Aside0.mk ((by rw [hg]; exact (below_size (by repeat (first | (with_reducible first | exact HB.out | apply below_alloc | apply pw_below_drewN | apply below_drew1) | exact HB.out))) : w.heap.size ≤ ab)); have n3_ := Aside0.mk ((by rw [hg]; exact (below_size (by repeat (first | (with_reducible first | exact HB.out | apply below_alloc | apply pw_below_drewN | apply below_drew1) | exact HB.out))) : w.heap.size ≤ ab)); clear HB; have HB := n0_; have aa := n1_; have GW291 := n2_; have ad := n3_; clear n0_ n1_ n2_ n3_; clear hb hbox hg; have hcz56_0 : w55.cell? ⟨ab, 0, none⟩ = some (.slice ao af.length ap) := (blk_cell aa.out 0).trans rfl; have hcz56_1 : w55.cell? ⟨ab, 1, none⟩ = some (.slice aq ae.length ar) := (blk_cell aa.out 1).trans rfl; have hcz56_2 : w55.cell? ⟨ab, 2, none⟩ = some (.int .i64 ak) := (blk_cell aa.out 2).trans rfl; have hcz56_3 : w55.cell? ⟨ab, 3, none⟩ = some (.int .i64 al) := (blk_cell aa.out 3).trans rfl; have hcz56_4 : w55.cell? ⟨ab, 4, none⟩ = some (.int .i64 am) := (blk_cell aa.out 4).trans rfl; have hcz56_5 : w55.cell? ⟨ab, 5, none⟩ = some (.slice au ah.length av) := (blk_cell aa.out 5).trans rfl; have hcz56_6 : w55.cell? ⟨ab, 6, none⟩ = some (.slice aw ai.length ax) := (blk_cell aa.out 6).trans rfl; have hcz56_7 : w55.cell? ⟨ab, 7, none⟩ = some (.int .i64 an) := (blk_cell aa.out 7).trans rfl; have hcz56_8 : w55.cell? ⟨ab, 8, none⟩ = some (.slice ay aj.length az) := (blk_cell aa.out 8).trans rfl; have hfz56_0 := blk_frozen aa.out 0; have hfz56_1 := blk_frozen aa.out 1; have hfz56_2 := blk_frozen aa.out 2; have hfz56_3 := blk_frozen aa.out 3; have hfz56_4 := blk_frozen aa.out 4; have hfz56_5 := blk_frozen aa.out 5; have hfz56_6 := blk_frozen aa.out 6; have hfz56_7 := blk_frozen aa.out 7; have hfz56_8 := blk_frozen aa.out 8) | ((with_reducible refine gate_callee (f := 19) rfl ?_); refine goesL_ (some 8) rfl rfl Try.func19 (by kernel_rfl) rfl #[.agg #[.slice ao af.length ap, .slice aq ae.length ar, .int .i64 ak, .int .i64 al, .int .i64 am, .slice au ah.length av, .slice aw ai.length ax, .int .i64 an, .slice ay aj.length az]] rfl (by (try simp only [List.map_toArray, List.map_cons, List.map_nil]); first | done | rfl) ?_; (with_reducible refine (wire_May.calls k _ _ af _ _ ae ak al am _ _ ah _ _ ai an _ _ aj false _ ?side1 ?side2 ?side3 ?side4 ?side5 ?side6 ?side7 ?side8 ?side9 ?side10 A2.out).mono ?_); (case side1 | side3 | side5 | side7 | side9 => repeat (first | exact (Kd.C_below HR0_0.out HB.out) | exact (Kd.C_below HR0_1.out HB.out) | exact (Kd.C_below HR0_5.out HB.out) | exact (Kd.C_below HR0_6.out HB.out) | exact (Kd.C_below HR0_8.out HB.out) | (with_reducible refine Kd.C_alloc ?_ _) | (with_reducible refine Kd.C_drewN ?_ _) | (with_reducible refine Kd.C_drew ?_))); (case side2 | side4 | side6 | side8 | side10 => first | exact HC0_0.out | exact HC0_1.out | exact HC0_5.out | exact HC0_6.out | exact HC0_8.out); rintro e w57 ⟨rfl, hb⟩; refine ⟨_, rfl, ?_⟩; replace aa := Aside0.mk (blk_below (g := ab) (by (with_reducible repeat (first | refine blk_drewN ?_ _ | refine blk_drew ?_ | refine blk_alloc ?_ _)); exact aa.out) hb); replace HB := Aside0.mk (below_step (by repeat (first | (with_reducible first | exact HB.out | apply below_alloc | apply pw_below_drewN | apply below_drew1 | refine below_set ?_ ad.out) | exact HB.out)) hb); (try clear hb); (try clear bg); (try clear hk); (try clear hi)))
  go_ret2
  exact ⟨_, by first | rfl | (simp [errW_none, errW_some] <;> rfl) | (simp [*, errW_none, errW_some] <;> rfl), by first | exact Kd.R_nil _ _ _ _ _ | exact Kd.N_nil _ _ _ _ _ | exact Kd.V_nil _ _ _ _ _ | exact Kd.Q_nil _ _ _ _ _ | exact Kd.S_nil _ _ _ _ _, by repeat (first | (with_reducible first | exact HB.out | apply below_alloc | apply pw_below_drewN | apply below_drew1 | refine below_set ?_ ad.out) | exact HB.out)⟩



end Go.Proofs.Ytjmpojfpbhihpaa.P

end
