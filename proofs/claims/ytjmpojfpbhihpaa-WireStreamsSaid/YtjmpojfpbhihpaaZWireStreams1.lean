/- Part of the proof of RowWireStreams: what it asks of functions, words and plain facts (put together by this session's own program, wip/tools/shake.py). -/
import Derived.Test.YtjmpojfpbhihpaaZWireStreams0
import Derived.Deep.Slices
import Derived.ChangeArms
import Derived.OpenShut
import Derived.SizedLaws
import Derived.KernelRfl
import Derived.Laws.BytesString
import Derived.Laws.IdiomStrings
import Derived.Laws.BitsLemmas
import Derived.Lib.Bytes
section
namespace Go.Proofs.Ytjmpojfpbhihpaa.P
open Go.RowKit Go.Proofs.YtjmpojfpbhihpaaW.PrintWords Go.Proofs.YtjmpojfpbhihpaaW.PrintLast Go.Proofs.YtjmpojfpbhihpaaW.PrintMore
attribute [local go_sem] max2_int min2_int max_two min_two max_three min_three max_four min_four   -- for this text's walks alone
set_option linter.unusedVariables false
set_option linter.unusedSimpArgs false

def bytes_Count.f (l0 l1 : List Int) : Option Int := match l1 with
  | [c] => if 0 < l0.length then some ((Lib.countByte (Lib.bytesOf l0) c.toNat.toUInt8 : Nat) : Int) else none
  | _ => none
theorem bytes_Count.calls (A0 : Option Addr) (c0 : Nat) (l0 : List Int) (A1 : Option Addr) (c1 : Nat) (l1 : List Int) (r : Int) (w : World) (hr0 : Kd.C (Kd.int .u8) w A0 l0.length l0) (hc0 : l0.length ≤ c0) (hr1 : Kd.C (Kd.int .u8) w A1 l1.length l1) (hc1 : l1.length ≤ c1) (h : bytes_Count.f l0 l1 = some r) :
    Calls Try.prog 30 #[.slice A0 l0.length c0, .slice A1 l1.length c1] w fun e w' => e = .returned (.int .i64 r) ∧ Drawn0 w w' := by
  unfold bytes_Count.f at h
  split at h
  · rename_i c
    split at h
    · rename_i hp
      obtain rfl := Option.some.inj h
      obtain ⟨b, o, rfl, _, hc⟩ := C_at hr0 (by decide) hp
      obtain ⟨b2, o2, rfl, _, hc2⟩ := C_at hr1 (by decide) (by simp)
      refine (Try.bytes_Count_one b o l0.length c0 b2 o2 c1 l0 c w rfl (fun i hi => ?_) ?_).mono ?_
      · obtain ⟨x, hx⟩ : ∃ x, l0[i]? = some x := ⟨_, List.getElem?_eq_getElem (h := hi)⟩
        obtain ⟨cs, _, hk, hcc⟩ := hc i x hx
        have hk' : cs = [.int .u8 x] := hk
        subst hk'
        have := hcc 0 _ rfl
        rw [List.getD_eq_getElem?_getD, hx]
        simpa [Kd.int, Kd.scalar] using this
      · obtain ⟨cs, _, hk, hcc⟩ := hc2 0 c rfl
        have hk' : cs = [.int .u8 c] := hk
        subst hk'
        have := hcc 0 _ rfl
        simpa [Kd.int, Kd.scalar] using this
      · rintro e w' ⟨rfl, rfl⟩
        exact ⟨rfl, Drawn0.refl _⟩
    · cases h
  · cases h

mutual
def wire_Split.l0 : Nat → List Int → List (List Int) → Int → Option ((List (List Int)) × Int × Int)
  | 0, _, _, _ => none
  | k + 1, x0, x5, x6 => if (wrap64 ((x0.length : Int) - x6)) ≥ 19 then (if 0 ≤ (wrap64 (x6 + 16)) then (if (wrap64 (x6 + 16)) < (x0.length : Int) then (if 0 ≤ (wrap64 ((wrap64 (x6 + 16)) + 1)) then (if (wrap64 ((wrap64 (x6 + 16)) + 1)) < (x0.length : Int) then (if 0 ≤ (wrap64 ((wrap64 (x6 + 19)) - 1)) then (if (wrap64 ((wrap64 (x6 + 19)) - 1)) < (x0.length : Int) then (if 0 ≤ x6 then (if x6 ≤ (wrap64 (x6 + 16)) then (if (wrap64 (x6 + 16)) ≤ (x0.length : Int) then ((bytes_Count.f ((x0.take ((wrap64 (x6 + 16)) : Int).toNat).drop (x6 : Int).toNat) (([255] : List Int))).bind fun t184 => (if t184 < 16 then (wire_Split.j1 k x0 x5 x6 (Go.bits .or .i64 (wrap64 ((wrap64 (rd x0 (wrap64 (x6 + 16)))) * 256)) (wrap64 (rd x0 (wrap64 ((wrap64 (x6 + 16)) + 1))))) true) else (if (Go.bits .or .i64 (wrap64 ((wrap64 (rd x0 (wrap64 (x6 + 16)))) * 256)) (wrap64 (rd x0 (wrap64 ((wrap64 (x6 + 16)) + 1))))) < 19 then (wire_Split.j1 k x0 x5 x6 (Go.bits .or .i64 (wrap64 ((wrap64 (rd x0 (wrap64 (x6 + 16)))) * 256)) (wrap64 (rd x0 (wrap64 ((wrap64 (x6 + 16)) + 1))))) true) else (if (Go.bits .or .i64 (wrap64 ((wrap64 (rd x0 (wrap64 (x6 + 16)))) * 256)) (wrap64 (rd x0 (wrap64 ((wrap64 (x6 + 16)) + 1))))) > 4096 then (wire_Split.j1 k x0 x5 x6 (Go.bits .or .i64 (wrap64 ((wrap64 (rd x0 (wrap64 (x6 + 16)))) * 256)) (wrap64 (rd x0 (wrap64 ((wrap64 (x6 + 16)) + 1))))) true) else (if (rd x0 (wrap64 ((wrap64 (x6 + 19)) - 1))) < 1 then (wire_Split.j1 k x0 x5 x6 (Go.bits .or .i64 (wrap64 ((wrap64 (rd x0 (wrap64 (x6 + 16)))) * 256)) (wrap64 (rd x0 (wrap64 ((wrap64 (x6 + 16)) + 1))))) true) else (wire_Split.j1 k x0 x5 x6 (Go.bits .or .i64 (wrap64 ((wrap64 (rd x0 (wrap64 (x6 + 16)))) * 256)) (wrap64 (rd x0 (wrap64 ((wrap64 (x6 + 16)) + 1))))) (decide ((rd x0 (wrap64 ((wrap64 (x6 + 19)) - 1))) > 4)))))))) else (none)) else (none)) else (none)) else (none)) else (none)) else (none)) else (none)) else (none)) else (none)) else (some (x5, x6, 0))
def wire_Split.j1 : Nat → List Int → List (List Int) → Int → Int → Bool → Option ((List (List Int)) × Int × Int)
  | 0, _, _, _, _, _ => none
  | k + 1, x0, x5, x6, x7, x58 => if x58 = true then (some (x5, x6, 4)) else (if x7 > (wrap64 ((x0.length : Int) - x6)) then (some (x5, x6, 0)) else (if 0 ≤ x6 then (if x6 ≤ (wrap64 (x6 + x7)) then (if (wrap64 (x6 + x7)) ≤ (x0.length : Int) then ((bytes_Clone.f ((x0.take ((wrap64 (x6 + x7)) : Int).toNat).drop (x6 : Int).toNat)).bind fun t186 => (if x5.length < 5864062014805 then (wire_Split.l0 k x0 (x5 ++ [t186]) (wrap64 (x6 + x7))) else (none))) else (none)) else (none)) else (none)))
end
def wire_Split.f (k : Nat) (l0 : List Int) : Option ((List (List Int)) × Int × Int) := wire_Split.l0 k l0 ([] : List (List Int)) 0
set_option maxHeartbeats 8000000 in
set_option maxRecDepth 100000 in
theorem wire_Split.calls (k : Nat) (A0 : Option Addr) (c0 : Nat) (l0 : List Int) (r1 : List (List Int)) (r2 : Int) (r3 : Int) (w : World) (hr0 : Kd.C (Kd.int .u8) w A0 l0.length l0) (hc0 : l0.length ≤ c0) (h : wire_Split.f k l0 = some (r1, r2, r3)) :
  Calls Try.prog 14 #[.slice A0 l0.length c0] w fun e w' => ∃ v0_ : Value, e = .returned (.tuple #[v0_, .int .i64 r2, .int .i64 r3]) ∧ Kd.S (Kd.slice 5 (Kd.int .u8)) 22 w' w.heap.size (fun _ => True) v0_ r1 ∧ Below w.heap.size w w' := by
 have am := Aside0.mk hr0
 have HC0 := Aside0.mk hc0
 clear hr0 hc0
 have HB := Aside0.mk (Below.refl w.heap.size w)
 have H : (wire_Split.l0 k l0 ([] : List (List Int)) 0) = some (r1, r2, r3) := h
 clear h
 have H' := Aside0.mk H
 clear H
 go_enter Try.func14, Try.ntmps14
 go_wp2
 repeat (go_quiet (fail); try go_wp2)
 go_loopg [5, 6] k (fun kq v5 v6 w' => ∃ (x5_1 : List (List Int)) (x6_1 : Int), v6 = .int .i64 x6_1 ∧ Aside0 (wire_Split.l0 kq l0 x5_1 x6_1 = some (r1, r2, r3)) ∧ Aside0 (kq ≤ k) ∧ Aside0 (Kd.S (Kd.slice 5 (Kd.int .u8)) 22 w' w.heap.size (fun _ => True) v5 x5_1) ∧ Aside0 (Below w.heap.size w w'))
 case atStart => exact ⟨(([] : List (List Int))), (0), (by first | rfl | (simp; done) | (simp [*]; done)), H', ⟨Nat.le_refl _⟩, ⟨by first | exact Kd.S_nil _ _ _ _ _ | exact Kd.N_nil _ _ _ _ _ | exact Kd.V_nil _ _ _ _ _ | exact Kd.Q_nil _ _ _ _ _ | exact Kd.R_nil _ _ _ _ _⟩, ⟨by repeat (first | (with_reducible first | exact HB.out | apply below_alloc | apply pw_below_drewN | apply below_drew1) | exact HB.out)⟩⟩
 case round =>
  clear H'
  try clear c1
  obtain ⟨x5_1, x6_1, rfl, HA, HK1, HO_5, HB⟩ := hrel
  cases gk with
  | zero => exact absurd HA.out (by simp [wire_Split.l0])
  | succ k1 =>
   have H := HA.out
   clear HA
   simp only [wire_Split.l0] at H
   by_cases c2 : (wrap64 ((l0.length : Int) - x6_1)) ≥ 19
   ·rw [if_pos c2] at H
    have c2b0 : decide (19 ≤ (wrap64 ((l0.length : Int) - x6_1))) = true := decide_eq_true c2
    clear c2
    obtain ⟨aa, hji3⟩ : ∃ j_ : Int, (wrap64 (x6_1 + 16)) = j_ := ⟨_, rfl⟩
    replace H : (if 0 ≤ (aa) then (if (aa) < (l0.length : Int) then (if 0 ≤ (wrap64 ((aa) + 1)) then (if (wrap64 ((aa) + 1)) < (l0.length : Int) then (if 0 ≤ (wrap64 ((wrap64 (x6_1 + 19)) - 1)) then (if (wrap64 ((wrap64 (x6_1 + 19)) - 1)) < (l0.length : Int) then (if 0 ≤ x6_1 then (if x6_1 ≤ (aa) then (if (aa) ≤ (l0.length : Int) then ((bytes_Count.f ((l0.take ((aa) : Int).toNat).drop (x6_1 : Int).toNat) (([255] : List Int))).bind fun t184 => (if t184 < 16 then (wire_Split.j1 k1 l0 x5_1 x6_1 (Go.bits .or .i64 (wrap64 ((wrap64 (rd l0 (aa))) * 256)) (wrap64 (rd l0 (wrap64 ((aa) + 1))))) true) else (if (Go.bits .or .i64 (wrap64 ((wrap64 (rd l0 (aa))) * 256)) (wrap64 (rd l0 (wrap64 ((aa) + 1))))) < 19 then (wire_Split.j1 k1 l0 x5_1 x6_1 (Go.bits .or .i64 (wrap64 ((wrap64 (rd l0 (aa))) * 256)) (wrap64 (rd l0 (wrap64 ((aa) + 1))))) true) else (if (Go.bits .or .i64 (wrap64 ((wrap64 (rd l0 (aa))) * 256)) (wrap64 (rd l0 (wrap64 ((aa) + 1))))) > 4096 then (wire_Split.j1 k1 l0 x5_1 x6_1 (Go.bits .or .i64 (wrap64 ((wrap64 (rd l0 (aa))) * 256)) (wrap64 (rd l0 (wrap64 ((aa) + 1))))) true) else (if (rd l0 (wrap64 ((wrap64 (x6_1 + 19)) - 1))) < 1 then (wire_Split.j1 k1 l0 x5_1 x6_1 (Go.bits .or .i64 (wrap64 ((wrap64 (rd l0 (aa))) * 256)) (wrap64 (rd l0 (wrap64 ((aa) + 1))))) true) else (wire_Split.j1 k1 l0 x5_1 x6_1 (Go.bits .or .i64 (wrap64 ((wrap64 (rd l0 (aa))) * 256)) (wrap64 (rd l0 (wrap64 ((aa) + 1))))) (decide ((rd l0 (wrap64 ((wrap64 (x6_1 + 19)) - 1))) > 4)))))))) else (none)) else (none)) else (none)) else (none)) else (none)) else (none)) else (none)) else (none)) else (none)) = some (r1, r2, r3) := by first | (rw [hji3] at H; exact H) | (simp only [hji3] at H ⊢; exact H)
    have hji3w : (IntKind.i64.wrap (x6_1 + 16)) = aa := (i64_w _).trans hji3
    by_cases c4 : 0 ≤ (aa)
    ·rw [if_pos c4] at H
     have c4b0 : decide (0 ≤ (aa)) = true := decide_eq_true c4
     clear c4
     by_cases c5 : (aa) < (l0.length : Int)
     ·rw [if_pos c5] at H
      have c5b0 : decide ((aa) < (l0.length : Int)) = true := decide_eq_true c5
      clear c5
      obtain ⟨ad, hji6⟩ : ∃ j_ : Int, (wrap64 ((aa) + 1)) = j_ := ⟨_, rfl⟩
      replace H : (if 0 ≤ (ad) then (if (ad) < (l0.length : Int) then (if 0 ≤ (wrap64 ((wrap64 (x6_1 + 19)) - 1)) then (if (wrap64 ((wrap64 (x6_1 + 19)) - 1)) < (l0.length : Int) then (if 0 ≤ x6_1 then (if x6_1 ≤ (aa) then (if (aa) ≤ (l0.length : Int) then ((bytes_Count.f ((l0.take ((aa) : Int).toNat).drop (x6_1 : Int).toNat) (([255] : List Int))).bind fun t184 => (if t184 < 16 then (wire_Split.j1 k1 l0 x5_1 x6_1 (Go.bits .or .i64 (wrap64 ((wrap64 (rd l0 (aa))) * 256)) (wrap64 (rd l0 (ad)))) true) else (if (Go.bits .or .i64 (wrap64 ((wrap64 (rd l0 (aa))) * 256)) (wrap64 (rd l0 (ad)))) < 19 then (wire_Split.j1 k1 l0 x5_1 x6_1 (Go.bits .or .i64 (wrap64 ((wrap64 (rd l0 (aa))) * 256)) (wrap64 (rd l0 (ad)))) true) else (if (Go.bits .or .i64 (wrap64 ((wrap64 (rd l0 (aa))) * 256)) (wrap64 (rd l0 (ad)))) > 4096 then (wire_Split.j1 k1 l0 x5_1 x6_1 (Go.bits .or .i64 (wrap64 ((wrap64 (rd l0 (aa))) * 256)) (wrap64 (rd l0 (ad)))) true) else (if (rd l0 (wrap64 ((wrap64 (x6_1 + 19)) - 1))) < 1 then (wire_Split.j1 k1 l0 x5_1 x6_1 (Go.bits .or .i64 (wrap64 ((wrap64 (rd l0 (aa))) * 256)) (wrap64 (rd l0 (ad)))) true) else (wire_Split.j1 k1 l0 x5_1 x6_1 (Go.bits .or .i64 (wrap64 ((wrap64 (rd l0 (aa))) * 256)) (wrap64 (rd l0 (ad)))) (decide ((rd l0 (wrap64 ((wrap64 (x6_1 + 19)) - 1))) > 4)))))))) else (none)) else (none)) else (none)) else (none)) else (none)) else (none)) else (none)) = some (r1, r2, r3) := by first | (rw [hji6] at H; exact H) | (simp only [hji6] at H ⊢; exact H)
      have hji6w : (IntKind.i64.wrap ((aa) + 1)) = ad := (i64_w _).trans hji6
      by_cases c7 : 0 ≤ (ad)
      ·rw [if_pos c7] at H
       have c7b0 : decide (0 ≤ (ad)) = true := decide_eq_true c7
       clear c7
       by_cases c8 : (ad) < (l0.length : Int)
       ·rw [if_pos c8] at H
        have c8b0 : decide ((ad) < (l0.length : Int)) = true := decide_eq_true c8
        clear c8
        obtain ⟨ai, hji9⟩ : ∃ j_ : Int, (wrap64 ((wrap64 (x6_1 + 19)) - 1)) = j_ := ⟨_, rfl⟩
        replace H : (if 0 ≤ (ai) then (if (ai) < (l0.length : Int) then (if 0 ≤ x6_1 then (if x6_1 ≤ (aa) then (if (aa) ≤ (l0.length : Int) then ((bytes_Count.f ((l0.take ((aa) : Int).toNat).drop (x6_1 : Int).toNat) (([255] : List Int))).bind fun t184 => (if t184 < 16 then (wire_Split.j1 k1 l0 x5_1 x6_1 (Go.bits .or .i64 (wrap64 ((wrap64 (rd l0 (aa))) * 256)) (wrap64 (rd l0 (ad)))) true) else (if (Go.bits .or .i64 (wrap64 ((wrap64 (rd l0 (aa))) * 256)) (wrap64 (rd l0 (ad)))) < 19 then (wire_Split.j1 k1 l0 x5_1 x6_1 (Go.bits .or .i64 (wrap64 ((wrap64 (rd l0 (aa))) * 256)) (wrap64 (rd l0 (ad)))) true) else (if (Go.bits .or .i64 (wrap64 ((wrap64 (rd l0 (aa))) * 256)) (wrap64 (rd l0 (ad)))) > 4096 then (wire_Split.j1 k1 l0 x5_1 x6_1 (Go.bits .or .i64 (wrap64 ((wrap64 (rd l0 (aa))) * 256)) (wrap64 (rd l0 (ad)))) true) else (if (rd l0 (ai)) < 1 then (wire_Split.j1 k1 l0 x5_1 x6_1 (Go.bits .or .i64 (wrap64 ((wrap64 (rd l0 (aa))) * 256)) (wrap64 (rd l0 (ad)))) true) else (wire_Split.j1 k1 l0 x5_1 x6_1 (Go.bits .or .i64 (wrap64 ((wrap64 (rd l0 (aa))) * 256)) (wrap64 (rd l0 (ad)))) (decide ((rd l0 (ai)) > 4)))))))) else (none)) else (none)) else (none)) else (none)) else (none)) = some (r1, r2, r3) := by first | (rw [hji9] at H; exact H) | (simp only [hji9] at H ⊢; exact H)
        have hji9w : (IntKind.i64.wrap ((wrap64 (x6_1 + 19)) - 1)) = ai := (i64_w _).trans hji9
        by_cases c10 : 0 ≤ (ai)
        ·rw [if_pos c10] at H
         have c10b0 : decide (0 ≤ (ai)) = true := decide_eq_true c10
         clear c10
         by_cases c11 : (ai) < (l0.length : Int)
         ·rw [if_pos c11] at H
          have c11b0 : decide ((ai) < (l0.length : Int)) = true := decide_eq_true c11
          clear c11
          have HC12 := Aside0.mk H
          clear H
          have p177 : 0 ≤ ((aa) : Int) := of_decide_eq_true (by first | (with_reducible assumption) | assumption)
          have q177 : (aa) < (l0.length : Int) := of_decide_eq_true (by first | (with_reducible assumption) | assumption)
          obtain ⟨ad177, e177, hx177_0⟩ := Kd.at_int am.out (aa) p177 q177
          (try (injection e177 with e177; replace e177 := e177.symm; subst e177; have e177 : True := trivial))
          cases e177
          replace hx177_0 := (HB.out.cell (World.block_lt_of_cell? w _ hx177_0)).trans hx177_0
          replace p177 := eq_true p177
          replace q177 := eq_true q177
          have p178 : 0 ≤ ((ad) : Int) := of_decide_eq_true (by first | (with_reducible assumption) | assumption)
          have q178 : (ad) < (l0.length : Int) := of_decide_eq_true (by first | (with_reducible assumption) | assumption)
          obtain ⟨ad178, e178, hx178_0⟩ := Kd.at_int am.out (ad) p178 q178
          obtain rfl : ad177 = ad178 := (by injection e178)
          replace hx178_0 := (HB.out.cell (World.block_lt_of_cell? w _ hx178_0)).trans hx178_0
          replace p178 := eq_true p178
          replace q178 := eq_true q178
          have p179 : 0 ≤ ((ai) : Int) := of_decide_eq_true (by first | (with_reducible assumption) | assumption)
          have q179 : (ai) < (l0.length : Int) := of_decide_eq_true (by first | (with_reducible assumption) | assumption)
          obtain ⟨ad179, e179, hx179_0⟩ := Kd.at_int am.out (ai) p179 q179
          obtain rfl : ad177 = ad179 := (by injection e179)
          replace hx179_0 := (HB.out.cell (World.block_lt_of_cell? w _ hx179_0)).trans hx179_0
          replace p179 := eq_true p179
          replace q179 := eq_true q179
          go_upto_region 6 with (fail)
          repeat (go_quiet (fail); go_upto_region 6 with (fail))
          go_cut [58] (fun v58 wc => ∃ (kq : Nat) (x58_11 : Bool), v58 = .bool x58_11 ∧ Aside0 (wire_Split.j1 kq l0 x5_1 x6_1 (Go.bits .or .i64 (wrap64 ((wrap64 (rd l0 (aa))) * 256)) (wrap64 (rd l0 (ad)))) x58_11 = some (r1, r2, r3)) ∧ Aside0 (kq ≤ k1) ∧ Aside0 (Kd.S (Kd.slice 5 (Kd.int .u8)) 22 wc w.heap.size (fun _ => True) u5 x5_1) ∧ Aside0 (Below w.heap.size w wc))
          case first =>
           have H := HC12.out
           clear HC12
           by_cases c13 : 0 ≤ x6_1
           ·rw [if_pos c13] at H
            have c13b0 := eq_true c13
            have c13b1 : decide (0 ≤ x6_1) = true := decide_eq_true c13
            clear c13
            by_cases c14 : x6_1 ≤ (aa)
            ·rw [if_pos c14] at H
             have c14b0 := eq_true c14
             have c14b1 : decide (x6_1 ≤ (aa)) = true := decide_eq_true c14
             clear c14
             by_cases c15 : (aa) ≤ (l0.length : Int)
             ·rw [if_pos c15] at H
              have c15b0 := eq_true c15
              have c15b1 : decide ((aa) ≤ (l0.length : Int)) = true := decide_eq_true c15
              clear c15
              obtain ⟨ae, hy181⟩ : ∃ y_ : List Int, y_ = (([255] : List Int)) := ⟨_, rfl⟩
              replace H : ((bytes_Count.f ((l0.take ((aa) : Int).toNat).drop (x6_1 : Int).toNat) ae).bind fun t184 => (if t184 < 16 then (wire_Split.j1 k1 l0 x5_1 x6_1 (Go.bits .or .i64 (wrap64 ((wrap64 (rd l0 (aa))) * 256)) (wrap64 (rd l0 (ad)))) true) else (if (Go.bits .or .i64 (wrap64 ((wrap64 (rd l0 (aa))) * 256)) (wrap64 (rd l0 (ad)))) < 19 then (wire_Split.j1 k1 l0 x5_1 x6_1 (Go.bits .or .i64 (wrap64 ((wrap64 (rd l0 (aa))) * 256)) (wrap64 (rd l0 (ad)))) true) else (if (Go.bits .or .i64 (wrap64 ((wrap64 (rd l0 (aa))) * 256)) (wrap64 (rd l0 (ad)))) > 4096 then (wire_Split.j1 k1 l0 x5_1 x6_1 (Go.bits .or .i64 (wrap64 ((wrap64 (rd l0 (aa))) * 256)) (wrap64 (rd l0 (ad)))) true) else (if (rd l0 (ai)) < 1 then (wire_Split.j1 k1 l0 x5_1 x6_1 (Go.bits .or .i64 (wrap64 ((wrap64 (rd l0 (aa))) * 256)) (wrap64 (rd l0 (ad)))) true) else (wire_Split.j1 k1 l0 x5_1 x6_1 (Go.bits .or .i64 (wrap64 ((wrap64 (rd l0 (aa))) * 256)) (wrap64 (rd l0 (ad)))) (decide ((rd l0 (ai)) > 4)))))))) = some (r1, r2, r3) := by first | (rw [hy181]; with_reducible exact H) | (have H2_ := (Option.bind_some _ _).symm.trans H; rw [hy181]; with_reducible exact H2_) | (have H2_ := (Option.bind_some _ _).symm.trans H; with_reducible exact H2_) | with_reducible exact H | (rw [hy181]; exact H) | exact H
              have ac := Aside0.mk hy181
              clear hy181
              replace H := Option.bind_eq_some_iff.mp H
              obtain ⟨t184, A160, H⟩ := H
              (try dsimp only at H)
              have al := Aside0.mk A160
              clear A160
              by_cases c17 : t184 < 16
              ·rw [if_pos c17] at H
               have c17b0 : decide (t184 < 16) = true := decide_eq_true c17
               clear c17
               (first | rw [c17b0] | (simp only [i64_w]; rw [c17b0]) | skip)
               have H' := Aside0.mk H
               clear H
               obtain ⟨i018, hi018, _, hsz18, _⟩ := info_parts info5
               obtain ⟨A18, hcut18, hA18, hC18⟩ := print_mid_of (P := Try.prog) (Value.int .u8) 0 22 5 .i64 .i64 Try.underlying22 hi018 hsz18 (some ad177) c0 l0 x6_1 (aa) (of_decide_eq_true (by first | (with_reducible assumption) | assumption)) (by first | omega | exact of_decide_eq_true (by first | (with_reducible assumption) | assumption)) (of_decide_eq_true (by first | (with_reducible assumption) | assumption)) HC0.out
               have af := Aside0.mk (Kd.C_of_reads (h1 := fun _ => rfl) (hA18 _ (Kd.reads_of_C am.out)))
               have ag := Aside0.mk hC18
               clear hA18 hC18 hi018 hsz18
               go_wp2_with (first | ((with_reducible refine gate_dst (N := 40) rfl ?_); refine Kd.R_lit (Kd.int .u8) _ 5 ?hg (N := 40) ?hd (xs := ([255] : List Int)) (inner := [.int .u8 255]) (ok := fun _ => True) (okp := fun _ => True) ?hr ?hp (fun _ hk => hk) trivial (Below.refl _ _) (Nat.le_refl _) (by simp) ?_; (case hd => rfl); (case hg => rfl); (case hr => first | (go_simp; done) | (go_simp; rfl)); (case hp => exact (Reps.one (show Kd.M (Kd.int .u8) _ _ _ 255 [.int .u8 255] from rfl) (Reps.none _ _))); intro v182 w19 ho20 hb hg_ hnew_; clear hg_ hnew_; (first | rw [← ac.out] at ho20 | (simp only [Int.reduceToNat] at ho20; rw [← ac.out] at ho20)); replace HO_5 := Aside0.mk (Kd.S_elder' (by (with_reducible repeat (first | apply Kd.S_alloc | apply Kd.S_drewN | apply Kd.S_drew)); exact HO_5.out) (Kd.R_base ho20) hb); have ab := Aside0.mk (Kd.R_lower ho20 (below_size (by repeat (first | (with_reducible first | exact HB.out | apply below_alloc | apply pw_below_drewN | apply below_drew1) | exact HB.out)))); replace HB := Aside0.mk (below_step (by repeat (first | (with_reducible first | exact HB.out | apply below_alloc | apply pw_below_drewN | apply below_drew1) | exact HB.out)) hb); clear hb ho20; obtain ⟨Ao21, co21, eo21⟩ := Kd.R_slice ab.out; subst eo21) | (go_at_call 30; refine calls_of_args (args' := #[.slice A18 ((l0.take ((aa) : Int).toNat).drop (x6_1 : Int).toNat).length (c0 - x6_1.toNat), .slice Ao21 ae.length co21]) (by first | rfl | (rw [show ((l0.take ((aa) : Int).toNat).drop (x6_1 : Int).toNat).length = ((aa).toNat - x6_1.toNat) from (by rw [List.length_drop, List.length_take]; have h_ : ((aa) : Int) ≤ (l0.length : Int) := of_decide_eq_true (by first | (with_reducible assumption) | assumption); omega)] <;> rfl) | (rw [show ((l0.take ((aa) : Int).toNat).drop (x6_1 : Int).toNat).length = ((aa).toNat - x6_1.toNat) from (by rw [List.length_drop, List.length_take]; have h_ : ((aa) : Int) ≤ (l0.length : Int) := of_decide_eq_true (by first | (with_reducible assumption) | assumption); omega)])) ?_; (with_reducible refine (bytes_Count.calls _ _ ((l0.take ((aa) : Int).toNat).drop (x6_1 : Int).toNat) _ _ ae t184 _ ?side1 ?side2 ?side3 ?side4 al.out).mono ?_); (case side1 | side3 => repeat (first | exact (Kd.C_below af.out HB.out) | exact (Kd.R_reads' ab.out).2.2 | (with_reducible refine Kd.C_alloc ?_ _) | (with_reducible refine Kd.C_drewN ?_ _) | (with_reducible refine Kd.C_drew ?_))); (case side2 | side4 => first | exact ag.out | exact (Kd.R_reads' ab.out).2.1); rintro e w' ⟨rfl, ⟨nd, rfl⟩⟩; (try first | exact ⟨rfl, _, World.drewN_drewN _ _ _⟩ | exact ⟨rfl, _, Eq.trans (World.drewN_drewN _ _ _) (congrArg (World.drewN _) (Nat.add_assoc _ _ _))⟩)))
               repeat (go_quiet (first | ((with_reducible refine gate_dst (N := 40) rfl ?_); refine Kd.R_lit (Kd.int .u8) _ 5 ?hg (N := 40) ?hd (xs := ([255] : List Int)) (inner := [.int .u8 255]) (ok := fun _ => True) (okp := fun _ => True) ?hr ?hp (fun _ hk => hk) trivial (Below.refl _ _) (Nat.le_refl _) (by simp) ?_; (case hd => rfl); (case hg => rfl); (case hr => first | (go_simp; done) | (go_simp; rfl)); (case hp => exact (Reps.one (show Kd.M (Kd.int .u8) _ _ _ 255 [.int .u8 255] from rfl) (Reps.none _ _))); intro v182 w19 ho20 hb hg_ hnew_; clear hg_ hnew_; (first | rw [← ac.out] at ho20 | (simp only [Int.reduceToNat] at ho20; rw [← ac.out] at ho20)); replace HO_5 := Aside0.mk (Kd.S_elder' (by (with_reducible repeat (first | apply Kd.S_alloc | apply Kd.S_drewN | apply Kd.S_drew)); exact HO_5.out) (Kd.R_base ho20) hb); have ab := Aside0.mk (Kd.R_lower ho20 (below_size (by repeat (first | (with_reducible first | exact HB.out | apply below_alloc | apply pw_below_drewN | apply below_drew1) | exact HB.out)))); replace HB := Aside0.mk (below_step (by repeat (first | (with_reducible first | exact HB.out | apply below_alloc | apply pw_below_drewN | apply below_drew1) | exact HB.out)) hb); clear hb ho20; obtain ⟨Ao21, co21, eo21⟩ := Kd.R_slice ab.out; subst eo21) | (go_at_call 30; refine calls_of_args (args' := #[.slice A18 ((l0.take ((aa) : Int).toNat).drop (x6_1 : Int).toNat).length (c0 - x6_1.toNat), .slice Ao21 ae.length co21]) (by first | rfl | (rw [show ((l0.take ((aa) : Int).toNat).drop (x6_1 : Int).toNat).length = ((aa).toNat - x6_1.toNat) from (by rw [List.length_drop, List.length_take]; have h_ : ((aa) : Int) ≤ (l0.length : Int) := of_decide_eq_true (by first | (with_reducible assumption) | assumption); omega)] <;> rfl) | (rw [show ((l0.take ((aa) : Int).toNat).drop (x6_1 : Int).toNat).length = ((aa).toNat - x6_1.toNat) from (by rw [List.length_drop, List.length_take]; have h_ : ((aa) : Int) ≤ (l0.length : Int) := of_decide_eq_true (by first | (with_reducible assumption) | assumption); omega)])) ?_; (with_reducible refine (bytes_Count.calls _ _ ((l0.take ((aa) : Int).toNat).drop (x6_1 : Int).toNat) _ _ ae t184 _ ?side1 ?side2 ?side3 ?side4 al.out).mono ?_); (case side1 | side3 => repeat (first | exact (Kd.C_below af.out HB.out) | exact (Kd.R_reads' ab.out).2.2 | (with_reducible refine Kd.C_alloc ?_ _) | (with_reducible refine Kd.C_drewN ?_ _) | (with_reducible refine Kd.C_drew ?_))); (case side2 | side4 => first | exact ag.out | exact (Kd.R_reads' ab.out).2.1); rintro e w' ⟨rfl, ⟨nd, rfl⟩⟩; (try first | exact ⟨rfl, _, World.drewN_drewN _ _ _⟩ | exact ⟨rfl, _, Eq.trans (World.drewN_drewN _ _ _) (congrArg (World.drewN _) (Nat.add_assoc _ _ _))⟩))); try go_wp2_with (first | ((with_reducible refine gate_dst (N := 40) rfl ?_); refine Kd.R_lit (Kd.int .u8) _ 5 ?hg (N := 40) ?hd (xs := ([255] : List Int)) (inner := [.int .u8 255]) (ok := fun _ => True) (okp := fun _ => True) ?hr ?hp (fun _ hk => hk) trivial (Below.refl _ _) (Nat.le_refl _) (by simp) ?_; (case hd => rfl); (case hg => rfl); (case hr => first | (go_simp; done) | (go_simp; rfl)); (case hp => exact (Reps.one (show Kd.M (Kd.int .u8) _ _ _ 255 [.int .u8 255] from rfl) (Reps.none _ _))); intro v182 w19 ho20 hb hg_ hnew_; clear hg_ hnew_; (first | rw [← ac.out] at ho20 | (simp only [Int.reduceToNat] at ho20; rw [← ac.out] at ho20)); replace HO_5 := Aside0.mk (Kd.S_elder' (by (with_reducible repeat (first | apply Kd.S_alloc | apply Kd.S_drewN | apply Kd.S_drew)); exact HO_5.out) (Kd.R_base ho20) hb); have ab := Aside0.mk (Kd.R_lower ho20 (below_size (by repeat (first | (with_reducible first | exact HB.out | apply below_alloc | apply pw_below_drewN | apply below_drew1) | exact HB.out)))); replace HB := Aside0.mk (below_step (by repeat (first | (with_reducible first | exact HB.out | apply below_alloc | apply pw_below_drewN | apply below_drew1) | exact HB.out)) hb); clear hb ho20; obtain ⟨Ao21, co21, eo21⟩ := Kd.R_slice ab.out; subst eo21) | (go_at_call 30; refine calls_of_args (args' := #[.slice A18 ((l0.take ((aa) : Int).toNat).drop (x6_1 : Int).toNat).length (c0 - x6_1.toNat), .slice Ao21 ae.length co21]) (by first | rfl | (rw [show ((l0.take ((aa) : Int).toNat).drop (x6_1 : Int).toNat).length = ((aa).toNat - x6_1.toNat) from (by rw [List.length_drop, List.length_take]; have h_ : ((aa) : Int) ≤ (l0.length : Int) := of_decide_eq_true (by first | (with_reducible assumption) | assumption); omega)] <;> rfl) | (rw [show ((l0.take ((aa) : Int).toNat).drop (x6_1 : Int).toNat).length = ((aa).toNat - x6_1.toNat) from (by rw [List.length_drop, List.length_take]; have h_ : ((aa) : Int) ≤ (l0.length : Int) := of_decide_eq_true (by first | (with_reducible assumption) | assumption); omega)])) ?_; (with_reducible refine (bytes_Count.calls _ _ ((l0.take ((aa) : Int).toNat).drop (x6_1 : Int).toNat) _ _ ae t184 _ ?side1 ?side2 ?side3 ?side4 al.out).mono ?_); (case side1 | side3 => repeat (first | exact (Kd.C_below af.out HB.out) | exact (Kd.R_reads' ab.out).2.2 | (with_reducible refine Kd.C_alloc ?_ _) | (with_reducible refine Kd.C_drewN ?_ _) | (with_reducible refine Kd.C_drew ?_))); (case side2 | side4 => first | exact ag.out | exact (Kd.R_reads' ab.out).2.1); rintro e w' ⟨rfl, ⟨nd, rfl⟩⟩; (try first | exact ⟨rfl, _, World.drewN_drewN _ _ _⟩ | exact ⟨rfl, _, Eq.trans (World.drewN_drewN _ _ _) (congrArg (World.drewN _) (Nat.add_assoc _ _ _))⟩))))
               go_meet
               case rel => exact ⟨_, (true), (by first | rfl | (simp; done) | (simp [*]; done)), H', ⟨by have := HK1.out; first | omega | exact Nat.le_refl _⟩, ⟨by (with_reducible repeat (first | apply Kd.S_alloc | apply Kd.S_drewN | apply Kd.S_drew)); exact Kd.S_mono HO_5.out (fun _ hk => trivial)⟩, ⟨by repeat (first | (with_reducible first | exact HB.out | apply below_alloc | apply pw_below_drewN | apply below_drew1) | exact HB.out)⟩⟩
              ·rw [if_neg c17] at H
               have c17b0 : decide (t184 < 16) = false := decide_eq_false c17
               clear c17
               (first | rw [c17b0] | (simp only [i64_w]; rw [c17b0]) | skip)
               by_cases c22 : (Go.bits .or .i64 (wrap64 ((wrap64 (rd l0 (aa))) * 256)) (wrap64 (rd l0 (ad)))) < 19
               ·rw [if_pos c22] at H
                have c22b0 : decide ((Go.bits .or .i64 (wrap64 ((wrap64 (rd l0 (aa))) * 256)) (wrap64 (rd l0 (ad)))) < 19) = true := decide_eq_true c22
                clear c22
                have H' := Aside0.mk H
                clear H
                obtain ⟨i023, hi023, _, hsz23, _⟩ := info_parts info5
                obtain ⟨A23, hcut23, hA23, hC23⟩ := print_mid_of (P := Try.prog) (Value.int .u8) 0 22 5 .i64 .i64 Try.underlying22 hi023 hsz23 (some ad177) c0 l0 x6_1 (aa) (of_decide_eq_true (by first | (with_reducible assumption) | assumption)) (by first | omega | exact of_decide_eq_true (by first | (with_reducible assumption) | assumption)) (of_decide_eq_true (by first | (with_reducible assumption) | assumption)) HC0.out
                have af := Aside0.mk (Kd.C_of_reads (h1 := fun _ => rfl) (hA23 _ (Kd.reads_of_C am.out)))
                have ag := Aside0.mk hC23
                clear hA23 hC23 hi023 hsz23
                go_wp2_with (first | ((with_reducible refine gate_dst (N := 40) rfl ?_); refine Kd.R_lit (Kd.int .u8) _ 5 ?hg (N := 40) ?hd (xs := ([255] : List Int)) (inner := [.int .u8 255]) (ok := fun _ => True) (okp := fun _ => True) ?hr ?hp (fun _ hk => hk) trivial (Below.refl _ _) (Nat.le_refl _) (by simp) ?_; (case hd => rfl); (case hg => rfl); (case hr => first | (go_simp; done) | (go_simp; rfl)); (case hp => exact (Reps.one (show Kd.M (Kd.int .u8) _ _ _ 255 [.int .u8 255] from rfl) (Reps.none _ _))); intro v182 w24 ho25 hb hg_ hnew_; clear hg_ hnew_; (first | rw [← ac.out] at ho25 | (simp only [Int.reduceToNat] at ho25; rw [← ac.out] at ho25)); replace HO_5 := Aside0.mk (Kd.S_elder' (by (with_reducible repeat (first | apply Kd.S_alloc | apply Kd.S_drewN | apply Kd.S_drew)); exact HO_5.out) (Kd.R_base ho25) hb); have ab := Aside0.mk (Kd.R_lower ho25 (below_size (by repeat (first | (with_reducible first | exact HB.out | apply below_alloc | apply pw_below_drewN | apply below_drew1) | exact HB.out)))); replace HB := Aside0.mk (below_step (by repeat (first | (with_reducible first | exact HB.out | apply below_alloc | apply pw_below_drewN | apply below_drew1) | exact HB.out)) hb); clear hb ho25; obtain ⟨Ao26, co26, eo26⟩ := Kd.R_slice ab.out; subst eo26) | (go_at_call 30; refine calls_of_args (args' := #[.slice A23 ((l0.take ((aa) : Int).toNat).drop (x6_1 : Int).toNat).length (c0 - x6_1.toNat), .slice Ao26 ae.length co26]) (by first | rfl | (rw [show ((l0.take ((aa) : Int).toNat).drop (x6_1 : Int).toNat).length = ((aa).toNat - x6_1.toNat) from (by rw [List.length_drop, List.length_take]; have h_ : ((aa) : Int) ≤ (l0.length : Int) := of_decide_eq_true (by first | (with_reducible assumption) | assumption); omega)] <;> rfl) | (rw [show ((l0.take ((aa) : Int).toNat).drop (x6_1 : Int).toNat).length = ((aa).toNat - x6_1.toNat) from (by rw [List.length_drop, List.length_take]; have h_ : ((aa) : Int) ≤ (l0.length : Int) := of_decide_eq_true (by first | (with_reducible assumption) | assumption); omega)])) ?_; (with_reducible refine (bytes_Count.calls _ _ ((l0.take ((aa) : Int).toNat).drop (x6_1 : Int).toNat) _ _ ae t184 _ ?side1 ?side2 ?side3 ?side4 al.out).mono ?_); (case side1 | side3 => repeat (first | exact (Kd.C_below af.out HB.out) | exact (Kd.R_reads' ab.out).2.2 | (with_reducible refine Kd.C_alloc ?_ _) | (with_reducible refine Kd.C_drewN ?_ _) | (with_reducible refine Kd.C_drew ?_))); (case side2 | side4 => first | exact ag.out | exact (Kd.R_reads' ab.out).2.1); rintro e w' ⟨rfl, ⟨nd, rfl⟩⟩; (try first | exact ⟨rfl, _, World.drewN_drewN _ _ _⟩ | exact ⟨rfl, _, Eq.trans (World.drewN_drewN _ _ _) (congrArg (World.drewN _) (Nat.add_assoc _ _ _))⟩)))
                repeat (go_quiet (first | ((with_reducible refine gate_dst (N := 40) rfl ?_); refine Kd.R_lit (Kd.int .u8) _ 5 ?hg (N := 40) ?hd (xs := ([255] : List Int)) (inner := [.int .u8 255]) (ok := fun _ => True) (okp := fun _ => True) ?hr ?hp (fun _ hk => hk) trivial (Below.refl _ _) (Nat.le_refl _) (by simp) ?_; (case hd => rfl); (case hg => rfl); (case hr => first | (go_simp; done) | (go_simp; rfl)); (case hp => exact (Reps.one (show Kd.M (Kd.int .u8) _ _ _ 255 [.int .u8 255] from rfl) (Reps.none _ _))); intro v182 w24 ho25 hb hg_ hnew_; clear hg_ hnew_; (first | rw [← ac.out] at ho25 | (simp only [Int.reduceToNat] at ho25; rw [← ac.out] at ho25)); replace HO_5 := Aside0.mk (Kd.S_elder' (by (with_reducible repeat (first | apply Kd.S_alloc | apply Kd.S_drewN | apply Kd.S_drew)); exact HO_5.out) (Kd.R_base ho25) hb); have ab := Aside0.mk (Kd.R_lower ho25 (below_size (by repeat (first | (with_reducible first | exact HB.out | apply below_alloc | apply pw_below_drewN | apply below_drew1) | exact HB.out)))); replace HB := Aside0.mk (below_step (by repeat (first | (with_reducible first | exact HB.out | apply below_alloc | apply pw_below_drewN | apply below_drew1) | exact HB.out)) hb); clear hb ho25; obtain ⟨Ao26, co26, eo26⟩ := Kd.R_slice ab.out; subst eo26) | (go_at_call 30; refine calls_of_args (args' := #[.slice A23 ((l0.take ((aa) : Int).toNat).drop (x6_1 : Int).toNat).length (c0 - x6_1.toNat), .slice Ao26 ae.length co26]) (by first | rfl | (rw [show ((l0.take ((aa) : Int).toNat).drop (x6_1 : Int).toNat).length = ((aa).toNat - x6_1.toNat) from (by rw [List.length_drop, List.length_take]; have h_ : ((aa) : Int) ≤ (l0.length : Int) := of_decide_eq_true (by first | (with_reducible assumption) | assumption); omega)] <;> rfl) | (rw [show ((l0.take ((aa) : Int).toNat).drop (x6_1 : Int).toNat).length = ((aa).toNat - x6_1.toNat) from (by rw [List.length_drop, List.length_take]; have h_ : ((aa) : Int) ≤ (l0.length : Int) := of_decide_eq_true (by first | (with_reducible assumption) | assumption); omega)])) ?_; (with_reducible refine (bytes_Count.calls _ _ ((l0.take ((aa) : Int).toNat).drop (x6_1 : Int).toNat) _ _ ae t184 _ ?side1 ?side2 ?side3 ?side4 al.out).mono ?_); (case side1 | side3 => repeat (first | exact (Kd.C_below af.out HB.out) | exact (Kd.R_reads' ab.out).2.2 | (with_reducible refine Kd.C_alloc ?_ _) | (with_reducible refine Kd.C_drewN ?_ _) | (with_reducible refine Kd.C_drew ?_))); (case side2 | side4 => first | exact ag.out | exact (Kd.R_reads' ab.out).2.1); rintro e w' ⟨rfl, ⟨nd, rfl⟩⟩; (try first | exact ⟨rfl, _, World.drewN_drewN _ _ _⟩ | exact ⟨rfl, _, Eq.trans (World.drewN_drewN _ _ _) (congrArg (World.drewN _) (Nat.add_assoc _ _ _))⟩))); try go_wp2_with (first | ((with_reducible refine gate_dst (N := 40) rfl ?_); refine Kd.R_lit (Kd.int .u8) _ 5 ?hg (N := 40) ?hd (xs := ([255] : List Int)) (inner := [.int .u8 255]) (ok := fun _ => True) (okp := fun _ => True) ?hr ?hp (fun _ hk => hk) trivial (Below.refl _ _) (Nat.le_refl _) (by simp) ?_; (case hd => rfl); (case hg => rfl); (case hr => first | (go_simp; done) | (go_simp; rfl)); (case hp => exact (Reps.one (show Kd.M (Kd.int .u8) _ _ _ 255 [.int .u8 255] from rfl) (Reps.none _ _))); intro v182 w24 ho25 hb hg_ hnew_; clear hg_ hnew_; (first | rw [← ac.out] at ho25 | (simp only [Int.reduceToNat] at ho25; rw [← ac.out] at ho25)); replace HO_5 := Aside0.mk (Kd.S_elder' (by (with_reducible repeat (first | apply Kd.S_alloc | apply Kd.S_drewN | apply Kd.S_drew)); exact HO_5.out) (Kd.R_base ho25) hb); have ab := Aside0.mk (Kd.R_lower ho25 (below_size (by repeat (first | (with_reducible first | exact HB.out | apply below_alloc | apply pw_below_drewN | apply below_drew1) | exact HB.out)))); replace HB := Aside0.mk (below_step (by repeat (first | (with_reducible first | exact HB.out | apply below_alloc | apply pw_below_drewN | apply below_drew1) | exact HB.out)) hb); clear hb ho25; obtain ⟨Ao26, co26, eo26⟩ := Kd.R_slice ab.out; subst eo26) | (go_at_call 30; refine calls_of_args (args' := #[.slice A23 ((l0.take ((aa) : Int).toNat).drop (x6_1 : Int).toNat).length (c0 - x6_1.toNat), .slice Ao26 ae.length co26]) (by first | rfl | (rw [show ((l0.take ((aa) : Int).toNat).drop (x6_1 : Int).toNat).length = ((aa).toNat - x6_1.toNat) from (by rw [List.length_drop, List.length_take]; have h_ : ((aa) : Int) ≤ (l0.length : Int) := of_decide_eq_true (by first | (with_reducible assumption) | assumption); omega)] <;> rfl) | (rw [show ((l0.take ((aa) : Int).toNat).drop (x6_1 : Int).toNat).length = ((aa).toNat - x6_1.toNat) from (by rw [List.length_drop, List.length_take]; have h_ : ((aa) : Int) ≤ (l0.length : Int) := of_decide_eq_true (by first | (with_reducible assumption) | assumption); omega)])) ?_; (with_reducible refine (bytes_Count.calls _ _ ((l0.take ((aa) : Int).toNat).drop (x6_1 : Int).toNat) _ _ ae t184 _ ?side1 ?side2 ?side3 ?side4 al.out).mono ?_); (case side1 | side3 => repeat (first | exact (Kd.C_below af.out HB.out) | exact (Kd.R_reads' ab.out).2.2 | (with_reducible refine Kd.C_alloc ?_ _) | (with_reducible refine Kd.C_drewN ?_ _) | (with_reducible refine Kd.C_drew ?_))); (case side2 | side4 => first | exact ag.out | exact (Kd.R_reads' ab.out).2.1); rintro e w' ⟨rfl, ⟨nd, rfl⟩⟩; (try first | exact ⟨rfl, _, World.drewN_drewN _ _ _⟩ | exact ⟨rfl, _, Eq.trans (World.drewN_drewN _ _ _) (congrArg (World.drewN _) (Nat.add_assoc _ _ _))⟩))))
                go_meet
                case rel => exact ⟨_, (true), (by first | rfl | (simp; done) | (simp [*]; done)), H', ⟨by have := HK1.out; first | omega | exact Nat.le_refl _⟩, ⟨by (with_reducible repeat (first | apply Kd.S_alloc | apply Kd.S_drewN | apply Kd.S_drew)); exact Kd.S_mono HO_5.out (fun _ hk => trivial)⟩, ⟨by repeat (first | (with_reducible first | exact HB.out | apply below_alloc | apply pw_below_drewN | apply below_drew1) | exact HB.out)⟩⟩
               ·rw [if_neg c22] at H
                have c22b0 : decide ((Go.bits .or .i64 (wrap64 ((wrap64 (rd l0 (aa))) * 256)) (wrap64 (rd l0 (ad)))) < 19) = false := decide_eq_false c22
                clear c22
                by_cases c27 : (Go.bits .or .i64 (wrap64 ((wrap64 (rd l0 (aa))) * 256)) (wrap64 (rd l0 (ad)))) > 4096
                ·rw [if_pos c27] at H
                 have c27b0 : decide (4096 < (Go.bits .or .i64 (wrap64 ((wrap64 (rd l0 (aa))) * 256)) (wrap64 (rd l0 (ad))))) = true := decide_eq_true c27
                 clear c27
                 have H' := Aside0.mk H
                 clear H
                 obtain ⟨i028, hi028, _, hsz28, _⟩ := info_parts info5
                 obtain ⟨A28, hcut28, hA28, hC28⟩ := print_mid_of (P := Try.prog) (Value.int .u8) 0 22 5 .i64 .i64 Try.underlying22 hi028 hsz28 (some ad177) c0 l0 x6_1 (aa) (of_decide_eq_true (by first | (with_reducible assumption) | assumption)) (by first | omega | exact of_decide_eq_true (by first | (with_reducible assumption) | assumption)) (of_decide_eq_true (by first | (with_reducible assumption) | assumption)) HC0.out
                 have af := Aside0.mk (Kd.C_of_reads (h1 := fun _ => rfl) (hA28 _ (Kd.reads_of_C am.out)))
                 have ag := Aside0.mk hC28
                 clear hA28 hC28 hi028 hsz28
                 go_wp2_with (first | ((with_reducible refine gate_dst (N := 40) rfl ?_); refine Kd.R_lit (Kd.int .u8) _ 5 ?hg (N := 40) ?hd (xs := ([255] : List Int)) (inner := [.int .u8 255]) (ok := fun _ => True) (okp := fun _ => True) ?hr ?hp (fun _ hk => hk) trivial (Below.refl _ _) (Nat.le_refl _) (by simp) ?_; (case hd => rfl); (case hg => rfl); (case hr => first | (go_simp; done) | (go_simp; rfl)); (case hp => exact (Reps.one (show Kd.M (Kd.int .u8) _ _ _ 255 [.int .u8 255] from rfl) (Reps.none _ _))); intro v182 w29 ho30 hb hg_ hnew_; clear hg_ hnew_; (first | rw [← ac.out] at ho30 | (simp only [Int.reduceToNat] at ho30; rw [← ac.out] at ho30)); replace HO_5 := Aside0.mk (Kd.S_elder' (by (with_reducible repeat (first | apply Kd.S_alloc | apply Kd.S_drewN | apply Kd.S_drew)); exact HO_5.out) (Kd.R_base ho30) hb); have ab := Aside0.mk (Kd.R_lower ho30 (below_size (by repeat (first | (with_reducible first | exact HB.out | apply below_alloc | apply pw_below_drewN | apply below_drew1) | exact HB.out)))); replace HB := Aside0.mk (below_step (by repeat (first | (with_reducible first | exact HB.out | apply below_alloc | apply pw_below_drewN | apply below_drew1) | exact HB.out)) hb); clear hb ho30; obtain ⟨Ao31, co31, eo31⟩ := Kd.R_slice ab.out; subst eo31) | (go_at_call 30; refine calls_of_args (args' := #[.slice A28 ((l0.take ((aa) : Int).toNat).drop (x6_1 : Int).toNat).length (c0 - x6_1.toNat), .slice Ao31 ae.length co31]) (by first | rfl | (rw [show ((l0.take ((aa) : Int).toNat).drop (x6_1 : Int).toNat).length = ((aa).toNat - x6_1.toNat) from (by rw [List.length_drop, List.length_take]; have h_ : ((aa) : Int) ≤ (l0.length : Int) := of_decide_eq_true (by first | (with_reducible assumption) | assumption); omega)] <;> rfl) | (rw [show ((l0.take ((aa) : Int).toNat).drop (x6_1 : Int).toNat).length = ((aa).toNat - x6_1.toNat) from (by rw [List.length_drop, List.length_take]; have h_ : ((aa) : Int) ≤ (l0.length : Int) := of_decide_eq_true (by first | (with_reducible assumption) | assumption); omega)])) ?_; (with_reducible refine (bytes_Count.calls _ _ ((l0.take ((aa) : Int).toNat).drop (x6_1 : Int).toNat) _ _ ae t184 _ ?side1 ?side2 ?side3 ?side4 al.out).mono ?_); (case side1 | side3 => repeat (first | exact (Kd.C_below af.out HB.out) | exact (Kd.R_reads' ab.out).2.2 | (with_reducible refine Kd.C_alloc ?_ _) | (with_reducible refine Kd.C_drewN ?_ _) | (with_reducible refine Kd.C_drew ?_))); (case side2 | side4 => first | exact ag.out | exact (Kd.R_reads' ab.out).2.1); rintro e w' ⟨rfl, ⟨nd, rfl⟩⟩; (try first | exact ⟨rfl, _, World.drewN_drewN _ _ _⟩ | exact ⟨rfl, _, Eq.trans (World.drewN_drewN _ _ _) (congrArg (World.drewN _) (Nat.add_assoc _ _ _))⟩)))
                 repeat (go_quiet (first | ((with_reducible refine gate_dst (N := 40) rfl ?_); refine Kd.R_lit (Kd.int .u8) _ 5 ?hg (N := 40) ?hd (xs := ([255] : List Int)) (inner := [.int .u8 255]) (ok := fun _ => True) (okp := fun _ => True) ?hr ?hp (fun _ hk => hk) trivial (Below.refl _ _) (Nat.le_refl _) (by simp) ?_; (case hd => rfl); (case hg => rfl); (case hr => first | (go_simp; done) | (go_simp; rfl)); (case hp => exact (Reps.one (show Kd.M (Kd.int .u8) _ _ _ 255 [.int .u8 255] from rfl) (Reps.none _ _))); intro v182 w29 ho30 hb hg_ hnew_; clear hg_ hnew_; (first | rw [← ac.out] at ho30 | (simp only [Int.reduceToNat] at ho30; rw [← ac.out] at ho30)); replace HO_5 := Aside0.mk (Kd.S_elder' (by (with_reducible repeat (first | apply Kd.S_alloc | apply Kd.S_drewN | apply Kd.S_drew)); exact HO_5.out) (Kd.R_base ho30) hb); have ab := Aside0.mk (Kd.R_lower ho30 (below_size (by repeat (first | (with_reducible first | exact HB.out | apply below_alloc | apply pw_below_drewN | apply below_drew1) | exact HB.out)))); replace HB := Aside0.mk (below_step (by repeat (first | (with_reducible first | exact HB.out | apply below_alloc | apply pw_below_drewN | apply below_drew1) | exact HB.out)) hb); clear hb ho30; obtain ⟨Ao31, co31, eo31⟩ := Kd.R_slice ab.out; subst eo31) | (go_at_call 30; refine calls_of_args (args' := #[.slice A28 ((l0.take ((aa) : Int).toNat).drop (x6_1 : Int).toNat).length (c0 - x6_1.toNat), .slice Ao31 ae.length co31]) (by first | rfl | (rw [show ((l0.take ((aa) : Int).toNat).drop (x6_1 : Int).toNat).length = ((aa).toNat - x6_1.toNat) from (by rw [List.length_drop, List.length_take]; have h_ : ((aa) : Int) ≤ (l0.length : Int) := of_decide_eq_true (by first | (with_reducible assumption) | assumption); omega)] <;> rfl) | (rw [show ((l0.take ((aa) : Int).toNat).drop (x6_1 : Int).toNat).length = ((aa).toNat - x6_1.toNat) from (by rw [List.length_drop, List.length_take]; have h_ : ((aa) : Int) ≤ (l0.length : Int) := of_decide_eq_true (by first | (with_reducible assumption) | assumption); omega)])) ?_; (with_reducible refine (bytes_Count.calls _ _ ((l0.take ((aa) : Int).toNat).drop (x6_1 : Int).toNat) _ _ ae t184 _ ?side1 ?side2 ?side3 ?side4 al.out).mono ?_); (case side1 | side3 => repeat (first | exact (Kd.C_below af.out HB.out) | exact (Kd.R_reads' ab.out).2.2 | (with_reducible refine Kd.C_alloc ?_ _) | (with_reducible refine Kd.C_drewN ?_ _) | (with_reducible refine Kd.C_drew ?_))); (case side2 | side4 => first | exact ag.out | exact (Kd.R_reads' ab.out).2.1); rintro e w' ⟨rfl, ⟨nd, rfl⟩⟩; (try first | exact ⟨rfl, _, World.drewN_drewN _ _ _⟩ | exact ⟨rfl, _, Eq.trans (World.drewN_drewN _ _ _) (congrArg (World.drewN _) (Nat.add_assoc _ _ _))⟩))); try go_wp2_with (first | ((with_reducible refine gate_dst (N := 40) rfl ?_); refine Kd.R_lit (Kd.int .u8) _ 5 ?hg (N := 40) ?hd (xs := ([255] : List Int)) (inner := [.int .u8 255]) (ok := fun _ => True) (okp := fun _ => True) ?hr ?hp (fun _ hk => hk) trivial (Below.refl _ _) (Nat.le_refl _) (by simp) ?_; (case hd => rfl); (case hg => rfl); (case hr => first | (go_simp; done) | (go_simp; rfl)); (case hp => exact (Reps.one (show Kd.M (Kd.int .u8) _ _ _ 255 [.int .u8 255] from rfl) (Reps.none _ _))); intro v182 w29 ho30 hb hg_ hnew_; clear hg_ hnew_; (first | rw [← ac.out] at ho30 | (simp only [Int.reduceToNat] at ho30; rw [← ac.out] at ho30)); replace HO_5 := Aside0.mk (Kd.S_elder' (by (with_reducible repeat (first | apply Kd.S_alloc | apply Kd.S_drewN | apply Kd.S_drew)); exact HO_5.out) (Kd.R_base ho30) hb); have ab := Aside0.mk (Kd.R_lower ho30 (below_size (by repeat (first | (with_reducible first | exact HB.out | apply below_alloc | apply pw_below_drewN | apply below_drew1) | exact HB.out)))); replace HB := Aside0.mk (below_step (by repeat (first | (with_reducible first | exact HB.out | apply below_alloc | apply pw_below_drewN | apply below_drew1) | exact HB.out)) hb); clear hb ho30; obtain ⟨Ao31, co31, eo31⟩ := Kd.R_slice ab.out; subst eo31) | (go_at_call 30; refine calls_of_args (args' := #[.slice A28 ((l0.take ((aa) : Int).toNat).drop (x6_1 : Int).toNat).length (c0 - x6_1.toNat), .slice Ao31 ae.length co31]) (by first | rfl | (rw [show ((l0.take ((aa) : Int).toNat).drop (x6_1 : Int).toNat).length = ((aa).toNat - x6_1.toNat) from (by rw [List.length_drop, List.length_take]; have h_ : ((aa) : Int) ≤ (l0.length : Int) := of_decide_eq_true (by first | (with_reducible assumption) | assumption); omega)] <;> rfl) | (rw [show ((l0.take ((aa) : Int).toNat).drop (x6_1 : Int).toNat).length = ((aa).toNat - x6_1.toNat) from (by rw [List.length_drop, List.length_take]; have h_ : ((aa) : Int) ≤ (l0.length : Int) := of_decide_eq_true (by first | (with_reducible assumption) | assumption); omega)])) ?_; (with_reducible refine (bytes_Count.calls _ _ ((l0.take ((aa) : Int).toNat).drop (x6_1 : Int).toNat) _ _ ae t184 _ ?side1 ?side2 ?side3 ?side4 al.out).mono ?_); (case side1 | side3 => repeat (first | exact (Kd.C_below af.out HB.out) | exact (Kd.R_reads' ab.out).2.2 | (with_reducible refine Kd.C_alloc ?_ _) | (with_reducible refine Kd.C_drewN ?_ _) | (with_reducible refine Kd.C_drew ?_))); (case side2 | side4 => first | exact ag.out | exact (Kd.R_reads' ab.out).2.1); rintro e w' ⟨rfl, ⟨nd, rfl⟩⟩; (try first | exact ⟨rfl, _, World.drewN_drewN _ _ _⟩ | exact ⟨rfl, _, Eq.trans (World.drewN_drewN _ _ _) (congrArg (World.drewN _) (Nat.add_assoc _ _ _))⟩))))
                 go_meet
                 case rel => exact ⟨_, (true), (by first | rfl | (simp; done) | (simp [*]; done)), H', ⟨by have := HK1.out; first | omega | exact Nat.le_refl _⟩, ⟨by (with_reducible repeat (first | apply Kd.S_alloc | apply Kd.S_drewN | apply Kd.S_drew)); exact Kd.S_mono HO_5.out (fun _ hk => trivial)⟩, ⟨by repeat (first | (with_reducible first | exact HB.out | apply below_alloc | apply pw_below_drewN | apply below_drew1) | exact HB.out)⟩⟩
                ·rw [if_neg c27] at H
                 have c27b0 : decide (4096 < (Go.bits .or .i64 (wrap64 ((wrap64 (rd l0 (aa))) * 256)) (wrap64 (rd l0 (ad))))) = false := decide_eq_false c27
                 clear c27
                 by_cases c32 : (rd l0 (ai)) < 1
                 ·rw [if_pos c32] at H
                  have c32b0 : decide ((rd l0 (ai)) < 1) = true := decide_eq_true c32
                  clear c32
                  have H' := Aside0.mk H
                  clear H
                  obtain ⟨i033, hi033, _, hsz33, _⟩ := info_parts info5
                  obtain ⟨A33, hcut33, hA33, hC33⟩ := print_mid_of (P := Try.prog) (Value.int .u8) 0 22 5 .i64 .i64 Try.underlying22 hi033 hsz33 (some ad177) c0 l0 x6_1 (aa) (of_decide_eq_true (by first | (with_reducible assumption) | assumption)) (by first | omega | exact of_decide_eq_true (by first | (with_reducible assumption) | assumption)) (of_decide_eq_true (by first | (with_reducible assumption) | assumption)) HC0.out
                  have af := Aside0.mk (Kd.C_of_reads (h1 := fun _ => rfl) (hA33 _ (Kd.reads_of_C am.out)))
                  have ag := Aside0.mk hC33
                  clear hA33 hC33 hi033 hsz33
                  go_wp2_with (first | ((with_reducible refine gate_dst (N := 40) rfl ?_); refine Kd.R_lit (Kd.int .u8) _ 5 ?hg (N := 40) ?hd (xs := ([255] : List Int)) (inner := [.int .u8 255]) (ok := fun _ => True) (okp := fun _ => True) ?hr ?hp (fun _ hk => hk) trivial (Below.refl _ _) (Nat.le_refl _) (by simp) ?_; (case hd => rfl); (case hg => rfl); (case hr => first | (go_simp; done) | (go_simp; rfl)); (case hp => exact (Reps.one (show Kd.M (Kd.int .u8) _ _ _ 255 [.int .u8 255] from rfl) (Reps.none _ _))); intro v182 w34 ho35 hb hg_ hnew_; clear hg_ hnew_; (first | rw [← ac.out] at ho35 | (simp only [Int.reduceToNat] at ho35; rw [← ac.out] at ho35)); replace HO_5 := Aside0.mk (Kd.S_elder' (by (with_reducible repeat (first | apply Kd.S_alloc | apply Kd.S_drewN | apply Kd.S_drew)); exact HO_5.out) (Kd.R_base ho35) hb); have ab := Aside0.mk (Kd.R_lower ho35 (below_size (by repeat (first | (with_reducible first | exact HB.out | apply below_alloc | apply pw_below_drewN | apply below_drew1) | exact HB.out)))); replace HB := Aside0.mk (below_step (by repeat (first | (with_reducible first | exact HB.out | apply below_alloc | apply pw_below_drewN | apply below_drew1) | exact HB.out)) hb); clear hb ho35; obtain ⟨Ao36, co36, eo36⟩ := Kd.R_slice ab.out; subst eo36) | (go_at_call 30; refine calls_of_args (args' := #[.slice A33 ((l0.take ((aa) : Int).toNat).drop (x6_1 : Int).toNat).length (c0 - x6_1.toNat), .slice Ao36 ae.length co36]) (by first | rfl | (rw [show ((l0.take ((aa) : Int).toNat).drop (x6_1 : Int).toNat).length = ((aa).toNat - x6_1.toNat) from (by rw [List.length_drop, List.length_take]; have h_ : ((aa) : Int) ≤ (l0.length : Int) := of_decide_eq_true (by first | (with_reducible assumption) | assumption); omega)] <;> rfl) | (rw [show ((l0.take ((aa) : Int).toNat).drop (x6_1 : Int).toNat).length = ((aa).toNat - x6_1.toNat) from (by rw [List.length_drop, List.length_take]; have h_ : ((aa) : Int) ≤ (l0.length : Int) := of_decide_eq_true (by first | (with_reducible assumption) | assumption); omega)])) ?_; (with_reducible refine (bytes_Count.calls _ _ ((l0.take ((aa) : Int).toNat).drop (x6_1 : Int).toNat) _ _ ae t184 _ ?side1 ?side2 ?side3 ?side4 al.out).mono ?_); (case side1 | side3 => repeat (first | exact (Kd.C_below af.out HB.out) | exact (Kd.R_reads' ab.out).2.2 | (with_reducible refine Kd.C_alloc ?_ _) | (with_reducible refine Kd.C_drewN ?_ _) | (with_reducible refine Kd.C_drew ?_))); (case side2 | side4 => first | exact ag.out | exact (Kd.R_reads' ab.out).2.1); rintro e w' ⟨rfl, ⟨nd, rfl⟩⟩; (try first | exact ⟨rfl, _, World.drewN_drewN _ _ _⟩ | exact ⟨rfl, _, Eq.trans (World.drewN_drewN _ _ _) (congrArg (World.drewN _) (Nat.add_assoc _ _ _))⟩)))
                  repeat (go_quiet (first | ((with_reducible refine gate_dst (N := 40) rfl ?_); refine Kd.R_lit (Kd.int .u8) _ 5 ?hg (N := 40) ?hd (xs := ([255] : List Int)) (inner := [.int .u8 255]) (ok := fun _ => True) (okp := fun _ => True) ?hr ?hp (fun _ hk => hk) trivial (Below.refl _ _) (Nat.le_refl _) (by simp) ?_; (case hd => rfl); (case hg => rfl); (case hr => first | (go_simp; done) | (go_simp; rfl)); (case hp => exact (Reps.one (show Kd.M (Kd.int .u8) _ _ _ 255 [.int .u8 255] from rfl) (Reps.none _ _))); intro v182 w34 ho35 hb hg_ hnew_; clear hg_ hnew_; (first | rw [← ac.out] at ho35 | (simp only [Int.reduceToNat] at ho35; rw [← ac.out] at ho35)); replace HO_5 := Aside0.mk (Kd.S_elder' (by (with_reducible repeat (first | apply Kd.S_alloc | apply Kd.S_drewN | apply Kd.S_drew)); exact HO_5.out) (Kd.R_base ho35) hb); have ab := Aside0.mk (Kd.R_lower ho35 (below_size (by repeat (first | (with_reducible first | exact HB.out | apply below_alloc | apply pw_below_drewN | apply below_drew1) | exact HB.out)))); replace HB := Aside0.mk (below_step (by repeat (first | (with_reducible first | exact HB.out | apply below_alloc | apply pw_below_drewN | apply below_drew1) | exact HB.out)) hb); clear hb ho35; obtain ⟨Ao36, co36, eo36⟩ := Kd.R_slice ab.out; subst eo36) | (go_at_call 30; refine calls_of_args (args' := #[.slice A33 ((l0.take ((aa) : Int).toNat).drop (x6_1 : Int).toNat).length (c0 - x6_1.toNat), .slice Ao36 ae.length co36]) (by first | rfl | (rw [show ((l0.take ((aa) : Int).toNat).drop (x6_1 : Int).toNat).length = ((aa).toNat - x6_1.toNat) from (by rw [List.length_drop, List.length_take]; have h_ : ((aa) : Int) ≤ (l0.length : Int) := of_decide_eq_true (by first | (with_reducible assumption) | assumption); omega)] <;> rfl) | (rw [show ((l0.take ((aa) : Int).toNat).drop (x6_1 : Int).toNat).length = ((aa).toNat - x6_1.toNat) from (by rw [List.length_drop, List.length_take]; have h_ : ((aa) : Int) ≤ (l0.length : Int) := of_decide_eq_true (by first | (with_reducible assumption) | assumption); omega)])) ?_; (with_reducible refine (bytes_Count.calls _ _ ((l0.take ((aa) : Int).toNat).drop (x6_1 : Int).toNat) _ _ ae t184 _ ?side1 ?side2 ?side3 ?side4 al.out).mono ?_); (case side1 | side3 => repeat (first | exact (Kd.C_below af.out HB.out) | exact (Kd.R_reads' ab.out).2.2 | (with_reducible refine Kd.C_alloc ?_ _) | (with_reducible refine Kd.C_drewN ?_ _) | (with_reducible refine Kd.C_drew ?_))); (case side2 | side4 => first | exact ag.out | exact (Kd.R_reads' ab.out).2.1); rintro e w' ⟨rfl, ⟨nd, rfl⟩⟩; (try first | exact ⟨rfl, _, World.drewN_drewN _ _ _⟩ | exact ⟨rfl, _, Eq.trans (World.drewN_drewN _ _ _) (congrArg (World.drewN _) (Nat.add_assoc _ _ _))⟩))); try go_wp2_with (first | ((with_reducible refine gate_dst (N := 40) rfl ?_); refine Kd.R_lit (Kd.int .u8) _ 5 ?hg (N := 40) ?hd (xs := ([255] : List Int)) (inner := [.int .u8 255]) (ok := fun _ => True) (okp := fun _ => True) ?hr ?hp (fun _ hk => hk) trivial (Below.refl _ _) (Nat.le_refl _) (by simp) ?_; (case hd => rfl); (case hg => rfl); (case hr => first | (go_simp; done) | (go_simp; rfl)); (case hp => exact (Reps.one (show Kd.M (Kd.int .u8) _ _ _ 255 [.int .u8 255] from rfl) (Reps.none _ _))); intro v182 w34 ho35 hb hg_ hnew_; clear hg_ hnew_; (first | rw [← ac.out] at ho35 | (simp only [Int.reduceToNat] at ho35; rw [← ac.out] at ho35)); replace HO_5 := Aside0.mk (Kd.S_elder' (by (with_reducible repeat (first | apply Kd.S_alloc | apply Kd.S_drewN | apply Kd.S_drew)); exact HO_5.out) (Kd.R_base ho35) hb); have ab := Aside0.mk (Kd.R_lower ho35 (below_size (by repeat (first | (with_reducible first | exact HB.out | apply below_alloc | apply pw_below_drewN | apply below_drew1) | exact HB.out)))); replace HB := Aside0.mk (below_step (by repeat (first | (with_reducible first | exact HB.out | apply below_alloc | apply pw_below_drewN | apply below_drew1) | exact HB.out)) hb); clear hb ho35; obtain ⟨Ao36, co36, eo36⟩ := Kd.R_slice ab.out; subst eo36) | (go_at_call 30; refine calls_of_args (args' := #[.slice A33 ((l0.take ((aa) : Int).toNat).drop (x6_1 : Int).toNat).length (c0 - x6_1.toNat), .slice Ao36 ae.length co36]) (by first | rfl | (rw [show ((l0.take ((aa) : Int).toNat).drop (x6_1 : Int).toNat).length = ((aa).toNat - x6_1.toNat) from (by rw [List.length_drop, List.length_take]; have h_ : ((aa) : Int) ≤ (l0.length : Int) := of_decide_eq_true (by first | (with_reducible assumption) | assumption); omega)] <;> rfl) | (rw [show ((l0.take ((aa) : Int).toNat).drop (x6_1 : Int).toNat).length = ((aa).toNat - x6_1.toNat) from (by rw [List.length_drop, List.length_take]; have h_ : ((aa) : Int) ≤ (l0.length : Int) := of_decide_eq_true (by first | (with_reducible assumption) | assumption); omega)])) ?_; (with_reducible refine (bytes_Count.calls _ _ ((l0.take ((aa) : Int).toNat).drop (x6_1 : Int).toNat) _ _ ae t184 _ ?side1 ?side2 ?side3 ?side4 al.out).mono ?_); (case side1 | side3 => repeat (first | exact (Kd.C_below af.out HB.out) | exact (Kd.R_reads' ab.out).2.2 | (with_reducible refine Kd.C_alloc ?_ _) | (with_reducible refine Kd.C_drewN ?_ _) | (with_reducible refine Kd.C_drew ?_))); (case side2 | side4 => first | exact ag.out | exact (Kd.R_reads' ab.out).2.1); rintro e w' ⟨rfl, ⟨nd, rfl⟩⟩; (try first | exact ⟨rfl, _, World.drewN_drewN _ _ _⟩ | exact ⟨rfl, _, Eq.trans (World.drewN_drewN _ _ _) (congrArg (World.drewN _) (Nat.add_assoc _ _ _))⟩))))
                  go_meet
                  case rel => exact ⟨_, (true), (by first | rfl | (simp; done) | (simp [*]; done)), H', ⟨by have := HK1.out; first | omega | exact Nat.le_refl _⟩, ⟨by (with_reducible repeat (first | apply Kd.S_alloc | apply Kd.S_drewN | apply Kd.S_drew)); exact Kd.S_mono HO_5.out (fun _ hk => trivial)⟩, ⟨by repeat (first | (with_reducible first | exact HB.out | apply below_alloc | apply pw_below_drewN | apply below_drew1) | exact HB.out)⟩⟩
                 ·rw [if_neg c32] at H
                  have c32b0 : decide ((rd l0 (ai)) < 1) = false := decide_eq_false c32
                  clear c32
                  have H' := Aside0.mk H
                  clear H
                  obtain ⟨i037, hi037, _, hsz37, _⟩ := info_parts info5
                  obtain ⟨A37, hcut37, hA37, hC37⟩ := print_mid_of (P := Try.prog) (Value.int .u8) 0 22 5 .i64 .i64 Try.underlying22 hi037 hsz37 (some ad177) c0 l0 x6_1 (aa) (of_decide_eq_true (by first | (with_reducible assumption) | assumption)) (by first | omega | exact of_decide_eq_true (by first | (with_reducible assumption) | assumption)) (of_decide_eq_true (by first | (with_reducible assumption) | assumption)) HC0.out
                  have af := Aside0.mk (Kd.C_of_reads (h1 := fun _ => rfl) (hA37 _ (Kd.reads_of_C am.out)))
                  have ag := Aside0.mk hC37
                  clear hA37 hC37 hi037 hsz37
                  go_wp2_with (first | ((with_reducible refine gate_dst (N := 40) rfl ?_); refine Kd.R_lit (Kd.int .u8) _ 5 ?hg (N := 40) ?hd (xs := ([255] : List Int)) (inner := [.int .u8 255]) (ok := fun _ => True) (okp := fun _ => True) ?hr ?hp (fun _ hk => hk) trivial (Below.refl _ _) (Nat.le_refl _) (by simp) ?_; (case hd => rfl); (case hg => rfl); (case hr => first | (go_simp; done) | (go_simp; rfl)); (case hp => exact (Reps.one (show Kd.M (Kd.int .u8) _ _ _ 255 [.int .u8 255] from rfl) (Reps.none _ _))); intro v182 w38 ho39 hb hg_ hnew_; clear hg_ hnew_; (first | rw [← ac.out] at ho39 | (simp only [Int.reduceToNat] at ho39; rw [← ac.out] at ho39)); replace HO_5 := Aside0.mk (Kd.S_elder' (by (with_reducible repeat (first | apply Kd.S_alloc | apply Kd.S_drewN | apply Kd.S_drew)); exact HO_5.out) (Kd.R_base ho39) hb); have ab := Aside0.mk (Kd.R_lower ho39 (below_size (by repeat (first | (with_reducible first | exact HB.out | apply below_alloc | apply pw_below_drewN | apply below_drew1) | exact HB.out)))); replace HB := Aside0.mk (below_step (by repeat (first | (with_reducible first | exact HB.out | apply below_alloc | apply pw_below_drewN | apply below_drew1) | exact HB.out)) hb); clear hb ho39; obtain ⟨Ao40, co40, eo40⟩ := Kd.R_slice ab.out; subst eo40) | (go_at_call 30; refine calls_of_args (args' := #[.slice A37 ((l0.take ((aa) : Int).toNat).drop (x6_1 : Int).toNat).length (c0 - x6_1.toNat), .slice Ao40 ae.length co40]) (by first | rfl | (rw [show ((l0.take ((aa) : Int).toNat).drop (x6_1 : Int).toNat).length = ((aa).toNat - x6_1.toNat) from (by rw [List.length_drop, List.length_take]; have h_ : ((aa) : Int) ≤ (l0.length : Int) := of_decide_eq_true (by first | (with_reducible assumption) | assumption); omega)] <;> rfl) | (rw [show ((l0.take ((aa) : Int).toNat).drop (x6_1 : Int).toNat).length = ((aa).toNat - x6_1.toNat) from (by rw [List.length_drop, List.length_take]; have h_ : ((aa) : Int) ≤ (l0.length : Int) := of_decide_eq_true (by first | (with_reducible assumption) | assumption); omega)])) ?_; (with_reducible refine (bytes_Count.calls _ _ ((l0.take ((aa) : Int).toNat).drop (x6_1 : Int).toNat) _ _ ae t184 _ ?side1 ?side2 ?side3 ?side4 al.out).mono ?_); (case side1 | side3 => repeat (first | exact (Kd.C_below af.out HB.out) | exact (Kd.R_reads' ab.out).2.2 | (with_reducible refine Kd.C_alloc ?_ _) | (with_reducible refine Kd.C_drewN ?_ _) | (with_reducible refine Kd.C_drew ?_))); (case side2 | side4 => first | exact ag.out | exact (Kd.R_reads' ab.out).2.1); rintro e w' ⟨rfl, ⟨nd, rfl⟩⟩; (try first | exact ⟨rfl, _, World.drewN_drewN _ _ _⟩ | exact ⟨rfl, _, Eq.trans (World.drewN_drewN _ _ _) (congrArg (World.drewN _) (Nat.add_assoc _ _ _))⟩)))
                  repeat (go_quiet (first | ((with_reducible refine gate_dst (N := 40) rfl ?_); refine Kd.R_lit (Kd.int .u8) _ 5 ?hg (N := 40) ?hd (xs := ([255] : List Int)) (inner := [.int .u8 255]) (ok := fun _ => True) (okp := fun _ => True) ?hr ?hp (fun _ hk => hk) trivial (Below.refl _ _) (Nat.le_refl _) (by simp) ?_; (case hd => rfl); (case hg => rfl); (case hr => first | (go_simp; done) | (go_simp; rfl)); (case hp => exact (Reps.one (show Kd.M (Kd.int .u8) _ _ _ 255 [.int .u8 255] from rfl) (Reps.none _ _))); intro v182 w38 ho39 hb hg_ hnew_; clear hg_ hnew_; (first | rw [← ac.out] at ho39 | (simp only [Int.reduceToNat] at ho39; rw [← ac.out] at ho39)); replace HO_5 := Aside0.mk (Kd.S_elder' (by (with_reducible repeat (first | apply Kd.S_alloc | apply Kd.S_drewN | apply Kd.S_drew)); exact HO_5.out) (Kd.R_base ho39) hb); have ab := Aside0.mk (Kd.R_lower ho39 (below_size (by repeat (first | (with_reducible first | exact HB.out | apply below_alloc | apply pw_below_drewN | apply below_drew1) | exact HB.out)))); replace HB := Aside0.mk (below_step (by repeat (first | (with_reducible first | exact HB.out | apply below_alloc | apply pw_below_drewN | apply below_drew1) | exact HB.out)) hb); clear hb ho39; obtain ⟨Ao40, co40, eo40⟩ := Kd.R_slice ab.out; subst eo40) | (go_at_call 30; refine calls_of_args (args' := #[.slice A37 ((l0.take ((aa) : Int).toNat).drop (x6_1 : Int).toNat).length (c0 - x6_1.toNat), .slice Ao40 ae.length co40]) (by first | rfl | (rw [show ((l0.take ((aa) : Int).toNat).drop (x6_1 : Int).toNat).length = ((aa).toNat - x6_1.toNat) from (by rw [List.length_drop, List.length_take]; have h_ : ((aa) : Int) ≤ (l0.length : Int) := of_decide_eq_true (by first | (with_reducible assumption) | assumption); omega)] <;> rfl) | (rw [show ((l0.take ((aa) : Int).toNat).drop (x6_1 : Int).toNat).length = ((aa).toNat - x6_1.toNat) from (by rw [List.length_drop, List.length_take]; have h_ : ((aa) : Int) ≤ (l0.length : Int) := of_decide_eq_true (by first | (with_reducible assumption) | assumption); omega)])) ?_; (with_reducible refine (bytes_Count.calls _ _ ((l0.take ((aa) : Int).toNat).drop (x6_1 : Int).toNat) _ _ ae t184 _ ?side1 ?side2 ?side3 ?side4 al.out).mono ?_); (case side1 | side3 => repeat (first | exact (Kd.C_below af.out HB.out) | exact (Kd.R_reads' ab.out).2.2 | (with_reducible refine Kd.C_alloc ?_ _) | (with_reducible refine Kd.C_drewN ?_ _) | (with_reducible refine Kd.C_drew ?_))); (case side2 | side4 => first | exact ag.out | exact (Kd.R_reads' ab.out).2.1); rintro e w' ⟨rfl, ⟨nd, rfl⟩⟩; (try first | exact ⟨rfl, _, World.drewN_drewN _ _ _⟩ | exact ⟨rfl, _, Eq.trans (World.drewN_drewN _ _ _) (congrArg (World.drewN _) (Nat.add_assoc _ _ _))⟩))); try go_wp2_with (first | ((with_reducible refine gate_dst (N := 40) rfl ?_); refine Kd.R_lit (Kd.int .u8) _ 5 ?hg (N := 40) ?hd (xs := ([255] : List Int)) (inner := [.int .u8 255]) (ok := fun _ => True) (okp := fun _ => True) ?hr ?hp (fun _ hk => hk) trivial (Below.refl _ _) (Nat.le_refl _) (by simp) ?_; (case hd => rfl); (case hg => rfl); (case hr => first | (go_simp; done) | (go_simp; rfl)); (case hp => exact (Reps.one (show Kd.M (Kd.int .u8) _ _ _ 255 [.int .u8 255] from rfl) (Reps.none _ _))); intro v182 w38 ho39 hb hg_ hnew_; clear hg_ hnew_; (first | rw [← ac.out] at ho39 | (simp only [Int.reduceToNat] at ho39; rw [← ac.out] at ho39)); replace HO_5 := Aside0.mk (Kd.S_elder' (by (with_reducible repeat (first | apply Kd.S_alloc | apply Kd.S_drewN | apply Kd.S_drew)); exact HO_5.out) (Kd.R_base ho39) hb); have ab := Aside0.mk (Kd.R_lower ho39 (below_size (by repeat (first | (with_reducible first | exact HB.out | apply below_alloc | apply pw_below_drewN | apply below_drew1) | exact HB.out)))); replace HB := Aside0.mk (below_step (by repeat (first | (with_reducible first | exact HB.out | apply below_alloc | apply pw_below_drewN | apply below_drew1) | exact HB.out)) hb); clear hb ho39; obtain ⟨Ao40, co40, eo40⟩ := Kd.R_slice ab.out; subst eo40) | (go_at_call 30; refine calls_of_args (args' := #[.slice A37 ((l0.take ((aa) : Int).toNat).drop (x6_1 : Int).toNat).length (c0 - x6_1.toNat), .slice Ao40 ae.length co40]) (by first | rfl | (rw [show ((l0.take ((aa) : Int).toNat).drop (x6_1 : Int).toNat).length = ((aa).toNat - x6_1.toNat) from (by rw [List.length_drop, List.length_take]; have h_ : ((aa) : Int) ≤ (l0.length : Int) := of_decide_eq_true (by first | (with_reducible assumption) | assumption); omega)] <;> rfl) | (rw [show ((l0.take ((aa) : Int).toNat).drop (x6_1 : Int).toNat).length = ((aa).toNat - x6_1.toNat) from (by rw [List.length_drop, List.length_take]; have h_ : ((aa) : Int) ≤ (l0.length : Int) := of_decide_eq_true (by first | (with_reducible assumption) | assumption); omega)])) ?_; (with_reducible refine (bytes_Count.calls _ _ ((l0.take ((aa) : Int).toNat).drop (x6_1 : Int).toNat) _ _ ae t184 _ ?side1 ?side2 ?side3 ?side4 al.out).mono ?_); (case side1 | side3 => repeat (first | exact (Kd.C_below af.out HB.out) | exact (Kd.R_reads' ab.out).2.2 | (with_reducible refine Kd.C_alloc ?_ _) | (with_reducible refine Kd.C_drewN ?_ _) | (with_reducible refine Kd.C_drew ?_))); (case side2 | side4 => first | exact ag.out | exact (Kd.R_reads' ab.out).2.1); rintro e w' ⟨rfl, ⟨nd, rfl⟩⟩; (try first | exact ⟨rfl, _, World.drewN_drewN _ _ _⟩ | exact ⟨rfl, _, Eq.trans (World.drewN_drewN _ _ _) (congrArg (World.drewN _) (Nat.add_assoc _ _ _))⟩))))
                  go_meet
                  case rel => exact ⟨_, (decide ((rd l0 (ai)) > 4)), (by first | rfl | (simp; done) | (simp only [← hji9] <;> (first | rfl | simp)) | (simp [*]; done)), H', ⟨by have := HK1.out; first | omega | exact Nat.le_refl _⟩, ⟨by (with_reducible repeat (first | apply Kd.S_alloc | apply Kd.S_drewN | apply Kd.S_drew)); exact Kd.S_mono HO_5.out (fun _ hk => trivial)⟩, ⟨by repeat (first | (with_reducible first | exact HB.out | apply below_alloc | apply pw_below_drewN | apply below_drew1) | exact HB.out)⟩⟩
             ·rw [if_neg c15] at H
              exact absurd H (by simp)
            ·rw [if_neg c14] at H
             exact absurd H (by simp)
           ·rw [if_neg c13] at H
            exact absurd H (by simp)
          case rest =>
           clear HC12
           try clear c1
           try clear p1
           try clear q1
           try clear hx1
           try clear c2
           try clear c2b0
           try clear p2
           try clear c3
           try clear c4
           try clear c4b0
           try clear c5
           try clear c5b0
           try clear p6
           try clear c7
           try clear c7b0
           try clear c8
           try clear c8b0
           try clear c10
           try clear c10b0
           try clear c11
           try clear c11b0
           try clear c13
           try clear c13b0
           try clear c13b1
           try clear c14
           try clear c14b0
           try clear c14b1
           try clear c15
           try clear c15b0
           try clear c15b1
           try clear c17
           try clear c17b0
           try clear p17
           try clear q17
           try clear hx17
           try clear c22
           try clear c22b0
           try clear c27
           try clear c27b0
           try clear c32
           try clear c32b0
           try clear hx177_0
           try clear hx178_0
           try clear hx179_0
           try clear p177
           try clear p178
           try clear p179
           try clear q177
           try clear q178
           try clear q179
           obtain ⟨kq, x58_11, rfl, HA, HJ11, HO_5, HB⟩ := hcut
           cases kq with
           | zero => exact absurd HA.out (by simp [wire_Split.j1])
           | succ kj11 =>
            have H := HA.out
            clear HA
            simp only [wire_Split.j1] at H
            by_cases c41 : x58_11 = true
            ·subst c41
             have H1 : (some (x5_1, x6_1, 4)) = some (r1, r2, r3) := by rw [if_pos rfl] at H; exact H
             clear H
             have H := H1
             clear H1
             simp only [Option.some.injEq, Prod.mk.injEq] at H
             obtain ⟨rfl, rfl, rfl⟩ := H
             go_wp2
             repeat (go_quiet (fail); try go_wp2)
             go_ret3
             exact ⟨_, by first | rfl | (simp [errW_none, errW_some] <;> rfl) | (simp only [← hji3, ← hji6, ← hji9]; first | rfl | (simp [errW_none, errW_some] <;> rfl)) | (simp [*, errW_none, errW_some] <;> rfl), by (with_reducible repeat (first | apply Kd.S_alloc | apply Kd.S_drewN | apply Kd.S_drew)); exact HO_5.out, by repeat (first | (with_reducible first | exact HB.out | apply below_alloc | apply pw_below_drewN | apply below_drew1) | exact HB.out)⟩
            ·replace c41 := Bool.eq_false_iff.mpr c41
             subst c41
             have H1 := H
             rw [if_neg (show ¬ (false = true) by decide)] at H1
             clear H
             have H := H1
             clear H1
             by_cases c42 : (Go.bits .or .i64 (wrap64 ((wrap64 (rd l0 (aa))) * 256)) (wrap64 (rd l0 (ad)))) > (wrap64 ((l0.length : Int) - x6_1))
             ·rw [if_pos c42] at H
              have c42b0 : decide ((wrap64 ((l0.length : Int) - x6_1)) < (Go.bits .or .i64 (wrap64 ((wrap64 (rd l0 (aa))) * 256)) (wrap64 (rd l0 (ad))))) = true := decide_eq_true c42
              clear c42
              simp only [Option.some.injEq, Prod.mk.injEq] at H
              obtain ⟨rfl, rfl, rfl⟩ := H
              go_wp2
              repeat (go_quiet (fail); try go_wp2)
              go_ret3
              exact ⟨_, by first | rfl | (simp [errW_none, errW_some] <;> rfl) | (simp only [← hji3, ← hji6, ← hji9]; first | rfl | (simp [errW_none, errW_some] <;> rfl)) | (simp [*, errW_none, errW_some] <;> rfl), by (with_reducible repeat (first | apply Kd.S_alloc | apply Kd.S_drewN | apply Kd.S_drew)); exact HO_5.out, by repeat (first | (with_reducible first | exact HB.out | apply below_alloc | apply pw_below_drewN | apply below_drew1) | exact HB.out)⟩
             ·rw [if_neg c42] at H
              have c42b0 : decide ((wrap64 ((l0.length : Int) - x6_1)) < (Go.bits .or .i64 (wrap64 ((wrap64 (rd l0 (aa))) * 256)) (wrap64 (rd l0 (ad))))) = false := decide_eq_false c42
              clear c42
              by_cases c43 : 0 ≤ x6_1
              ·rw [if_pos c43] at H
               have c43b0 := eq_true c43
               have c43b1 : decide (0 ≤ x6_1) = true := decide_eq_true c43
               clear c43
               by_cases c44 : x6_1 ≤ (wrap64 (x6_1 + (Go.bits .or .i64 (wrap64 ((wrap64 (rd l0 (aa))) * 256)) (wrap64 (rd l0 (ad))))))
               ·rw [if_pos c44] at H
                have c44b0 := eq_true c44
                have c44b1 : decide (x6_1 ≤ (wrap64 (x6_1 + (Go.bits .or .i64 (wrap64 ((wrap64 (rd l0 (aa))) * 256)) (wrap64 (rd l0 (ad))))))) = true := decide_eq_true c44
                by_cases c45 : (wrap64 (x6_1 + (Go.bits .or .i64 (wrap64 ((wrap64 (rd l0 (aa))) * 256)) (wrap64 (rd l0 (ad)))))) ≤ (l0.length : Int)
                ·rw [if_pos c45] at H
                 have c45b0 := eq_true c45
                 have c45b1 : decide ((wrap64 (x6_1 + (Go.bits .or .i64 (wrap64 ((wrap64 (rd l0 (aa))) * 256)) (wrap64 (rd l0 (ad)))))) ≤ (l0.length : Int)) = true := decide_eq_true c45
                 replace H := Option.bind_eq_some_iff.mp H
                 obtain ⟨t186, A460, H⟩ := H
                 (try dsimp only at H)
                 have A46 := Aside0.mk A460
                 clear A460
                 by_cases c47 : x5_1.length < 5864062014805
                 ·rw [if_pos c47] at H
                  have LMc47 := Aside0.mk c47
                  clear c47
                  obtain ⟨y189, hy189⟩ : ∃ y_ : List (List Int), y_ = (x5_1 ++ [t186]) := ⟨_, rfl⟩
                  replace H : (wire_Split.l0 kj11 l0 y189 (wrap64 (x6_1 + (Go.bits .or .i64 (wrap64 ((wrap64 (rd l0 (aa))) * 256)) (wrap64 (rd l0 (ad))))))) = some (r1, r2, r3) := by first | (rw [hy189]; with_reducible exact H) | (have H2_ := (Option.bind_some _ _).symm.trans H; rw [hy189]; with_reducible exact H2_) | (have H2_ := (Option.bind_some _ _).symm.trans H; with_reducible exact H2_) | with_reducible exact H | (rw [hy189]; exact H) | exact H
                  have Ny189 := Aside0.mk hy189
                  clear hy189
                  have H' := Aside0.mk H
                  clear H
                  obtain ⟨i048, hi048, _, hsz48, _⟩ := info_parts info5
                  obtain ⟨A48, hcut48, hA48, hC48⟩ := print_mid_of (P := Try.prog) (Value.int .u8) 0 22 5 .i64 .i64 Try.underlying22 hi048 hsz48 (some ad177) c0 l0 x6_1 (wrap64 (x6_1 + (Go.bits .or .i64 (wrap64 ((wrap64 (rd l0 (aa))) * 256)) (wrap64 (rd l0 (ad)))))) (of_decide_eq_true (by first | (with_reducible assumption) | assumption)) (by first | omega | exact of_decide_eq_true (by first | (with_reducible assumption) | assumption)) (of_decide_eq_true (by first | (with_reducible assumption) | assumption)) HC0.out
                  have HR185 := Aside0.mk (Kd.C_of_reads (h1 := fun _ => rfl) (hA48 _ (Kd.reads_of_C am.out)))
                  have HC185 := Aside0.mk hC48
                  clear hA48 hC48 hi048 hsz48
                  go_wp2_with (first | (go_at_call 27; refine calls_of_args (args' := #[.slice A48 ((l0.take ((wrap64 (x6_1 + (Go.bits .or .i64 (wrap64 ((wrap64 (rd l0 (aa))) * 256)) (wrap64 (rd l0 (ad)))))) : Int).toNat).drop (x6_1 : Int).toNat).length (c0 - x6_1.toNat)]) (by first | rfl | (rw [show ((l0.take ((wrap64 (x6_1 + (Go.bits .or .i64 (wrap64 ((wrap64 (rd l0 (aa))) * 256)) (wrap64 (rd l0 (ad)))))) : Int).toNat).drop (x6_1 : Int).toNat).length = ((wrap64 (x6_1 + (Go.bits .or .i64 (wrap64 ((wrap64 (rd l0 (aa))) * 256)) (wrap64 (rd l0 (ad)))))).toNat - x6_1.toNat) from (by rw [List.length_drop, List.length_take]; have h_ : ((wrap64 (x6_1 + (Go.bits .or .i64 (wrap64 ((wrap64 (rd l0 (aa))) * 256)) (wrap64 (rd l0 (ad)))))) : Int) ≤ (l0.length : Int) := of_decide_eq_true (by first | (with_reducible assumption) | assumption); omega)] <;> rfl) | (rw [show ((l0.take ((wrap64 (x6_1 + (Go.bits .or .i64 (wrap64 ((wrap64 (rd l0 (aa))) * 256)) (wrap64 (rd l0 (ad)))))) : Int).toNat).drop (x6_1 : Int).toNat).length = ((wrap64 (x6_1 + (Go.bits .or .i64 (wrap64 ((wrap64 (rd l0 (aa))) * 256)) (wrap64 (rd l0 (ad)))))).toNat - x6_1.toNat) from (by rw [List.length_drop, List.length_take]; have h_ : ((wrap64 (x6_1 + (Go.bits .or .i64 (wrap64 ((wrap64 (rd l0 (aa))) * 256)) (wrap64 (rd l0 (ad)))))) : Int) ≤ (l0.length : Int) := of_decide_eq_true (by first | (with_reducible assumption) | assumption); omega)])) ?_; (with_reducible refine (bytes_Clone.calls _ _ ((l0.take ((wrap64 (x6_1 + (Go.bits .or .i64 (wrap64 ((wrap64 (rd l0 (aa))) * 256)) (wrap64 (rd l0 (ad)))))) : Int).toNat).drop (x6_1 : Int).toNat) t186 _ ?side1 ?side2 A46.out).mono ?_); (case side1 => repeat (first | exact (Kd.C_below HR185.out HB.out) | (with_reducible refine Kd.C_alloc ?_ _) | (with_reducible refine Kd.C_drewN ?_ _) | (with_reducible refine Kd.C_drew ?_))); (case side2 => exact HC185.out); rintro e w49 ⟨v187, rfl, ho0, hb⟩; replace HO_5 := Aside0.mk (Kd.S_elder' (by (with_reducible repeat (first | apply Kd.S_alloc | apply Kd.S_drewN | apply Kd.S_drew)); exact HO_5.out) (Kd.R_base ho0) hb); have ah := Aside0.mk (Kd.R_lower ho0 (below_size (by repeat (first | (with_reducible first | exact HB.out | apply below_alloc | apply pw_below_drewN | apply below_drew1) | exact HB.out)))); replace HB := Aside0.mk (below_step (by repeat (first | (with_reducible first | exact HB.out | apply below_alloc | apply pw_below_drewN | apply below_drew1) | exact HB.out)) hb); (try clear hb); (try clear hb2); (try clear hk); (try clear hi); (try clear ho0); obtain ⟨aj, ak, eo51⟩ := Kd.R_slice ah.out; subst eo51) | ((with_reducible refine gate_builtin (b := .append) (xs := #[.tmp 67, .tmp 75]) rfl ?_); at_builtin; refine Kd.S_append (Kd.slice 5 (Kd.int .u8)) (w0 := w) w.heap.size rfl (.tmp 67) (.tmp 75) 33 22 (.slice none 0 0) 24 rfl Try.underlying33 info22 rfl (by decide) (by omega) u5 x5_1 t186 [.slice aj t186.length ak] (fun _ => True) (fun k_ => some k_ = (.slice aj t186.length ak : Value).ownBlock) rfl rfl ?aP (fun k_ hk_ => ((Kd.R_mono (ok' := fun k_ => ((fun _ => True)) k_ ∧ some k_ ≠ (u5 : Value).ownBlock) (Kd.R_apart' (ah.out) (Kd.S_typed HO_5.out) (by decide)) (fun k_ hk => ⟨trivial, hk.2⟩))).1 k_ hk_.symm) ?aF ?aO ?aB ?aS ?aL ?_; (case aP => exact Kd.M_row (Kd.R_mono (Kd.R_tight rfl (Kd.R_mono (ok' := fun k_ => ((fun _ => True)) k_ ∧ some k_ ≠ (u5 : Value).ownBlock) (Kd.R_apart' (ah.out) (Kd.S_typed HO_5.out) (by decide)) (fun k_ hk => ⟨trivial, hk.2⟩))) (fun _ h_ => h_))); (case aB => exact (by repeat (first | (with_reducible first | exact HB.out | apply below_alloc | apply pw_below_drewN | apply below_drew1) | exact HB.out))); (case aF => exact (fun _ _ => trivial)); (case aO => exact (by (with_reducible repeat (first | apply Kd.S_alloc | apply Kd.S_drewN | apply Kd.S_drew)); exact Kd.S_mono HO_5.out (fun k_ hk => ⟨trivial, fun e_ => hk.2 e_⟩))); (case aS => exact (below_size (by repeat (first | (with_reducible first | exact HB.out | apply below_alloc | apply pw_below_drewN | apply below_drew1) | exact HB.out)))); (case aL => have := LMc47.out; omega); intro v190 w50 ho hb hg hat; rw [← Ny189.out] at ho; replace HB := Aside0.mk (hb); have HO191 := Aside0.mk (ho); clear HO_5; clear ah; clear ho hb hg hat))
                  repeat (go_quiet (first | (go_at_call 27; refine calls_of_args (args' := #[.slice A48 ((l0.take ((wrap64 (x6_1 + (Go.bits .or .i64 (wrap64 ((wrap64 (rd l0 (aa))) * 256)) (wrap64 (rd l0 (ad)))))) : Int).toNat).drop (x6_1 : Int).toNat).length (c0 - x6_1.toNat)]) (by first | rfl | (rw [show ((l0.take ((wrap64 (x6_1 + (Go.bits .or .i64 (wrap64 ((wrap64 (rd l0 (aa))) * 256)) (wrap64 (rd l0 (ad)))))) : Int).toNat).drop (x6_1 : Int).toNat).length = ((wrap64 (x6_1 + (Go.bits .or .i64 (wrap64 ((wrap64 (rd l0 (aa))) * 256)) (wrap64 (rd l0 (ad)))))).toNat - x6_1.toNat) from (by rw [List.length_drop, List.length_take]; have h_ : ((wrap64 (x6_1 + (Go.bits .or .i64 (wrap64 ((wrap64 (rd l0 (aa))) * 256)) (wrap64 (rd l0 (ad)))))) : Int) ≤ (l0.length : Int) := of_decide_eq_true (by first | (with_reducible assumption) | assumption); omega)] <;> rfl) | (rw [show ((l0.take ((wrap64 (x6_1 + (Go.bits .or .i64 (wrap64 ((wrap64 (rd l0 (aa))) * 256)) (wrap64 (rd l0 (ad)))))) : Int).toNat).drop (x6_1 : Int).toNat).length = ((wrap64 (x6_1 + (Go.bits .or .i64 (wrap64 ((wrap64 (rd l0 (aa))) * 256)) (wrap64 (rd l0 (ad)))))).toNat - x6_1.toNat) from (by rw [List.length_drop, List.length_take]; have h_ : ((wrap64 (x6_1 + (Go.bits .or .i64 (wrap64 ((wrap64 (rd l0 (aa))) * 256)) (wrap64 (rd l0 (ad)))))) : Int) ≤ (l0.length : Int) := of_decide_eq_true (by first | (with_reducible assumption) | assumption); omega)])) ?_; (with_reducible refine (bytes_Clone.calls _ _ ((l0.take ((wrap64 (x6_1 + (Go.bits .or .i64 (wrap64 ((wrap64 (rd l0 (aa))) * 256)) (wrap64 (rd l0 (ad)))))) : Int).toNat).drop (x6_1 : Int).toNat) t186 _ ?side1 ?side2 A46.out).mono ?_); (case side1 => repeat (first | exact (Kd.C_below HR185.out HB.out) | (with_reducible refine Kd.C_alloc ?_ _) | (with_reducible refine Kd.C_drewN ?_ _) | (with_reducible refine Kd.C_drew ?_))); (case side2 => exact HC185.out); rintro e w49 ⟨v187, rfl, ho0, hb⟩; replace HO_5 := Aside0.mk (Kd.S_elder' (by (with_reducible repeat (first | apply Kd.S_alloc | apply Kd.S_drewN | apply Kd.S_drew)); exact HO_5.out) (Kd.R_base ho0) hb); have ah := Aside0.mk (Kd.R_lower ho0 (below_size (by repeat (first | (with_reducible first | exact HB.out | apply below_alloc | apply pw_below_drewN | apply below_drew1) | exact HB.out)))); replace HB := Aside0.mk (below_step (by repeat (first | (with_reducible first | exact HB.out | apply below_alloc | apply pw_below_drewN | apply below_drew1) | exact HB.out)) hb); (try clear hb); (try clear hb2); (try clear hk); (try clear hi); (try clear ho0); obtain ⟨aj, ak, eo51⟩ := Kd.R_slice ah.out; subst eo51) | ((with_reducible refine gate_builtin (b := .append) (xs := #[.tmp 67, .tmp 75]) rfl ?_); at_builtin; refine Kd.S_append (Kd.slice 5 (Kd.int .u8)) (w0 := w) w.heap.size rfl (.tmp 67) (.tmp 75) 33 22 (.slice none 0 0) 24 rfl Try.underlying33 info22 rfl (by decide) (by omega) u5 x5_1 t186 [.slice aj t186.length ak] (fun _ => True) (fun k_ => some k_ = (.slice aj t186.length ak : Value).ownBlock) rfl rfl ?aP (fun k_ hk_ => ((Kd.R_mono (ok' := fun k_ => ((fun _ => True)) k_ ∧ some k_ ≠ (u5 : Value).ownBlock) (Kd.R_apart' (ah.out) (Kd.S_typed HO_5.out) (by decide)) (fun k_ hk => ⟨trivial, hk.2⟩))).1 k_ hk_.symm) ?aF ?aO ?aB ?aS ?aL ?_; (case aP => exact Kd.M_row (Kd.R_mono (Kd.R_tight rfl (Kd.R_mono (ok' := fun k_ => ((fun _ => True)) k_ ∧ some k_ ≠ (u5 : Value).ownBlock) (Kd.R_apart' (ah.out) (Kd.S_typed HO_5.out) (by decide)) (fun k_ hk => ⟨trivial, hk.2⟩))) (fun _ h_ => h_))); (case aB => exact (by repeat (first | (with_reducible first | exact HB.out | apply below_alloc | apply pw_below_drewN | apply below_drew1) | exact HB.out))); (case aF => exact (fun _ _ => trivial)); (case aO => exact (by (with_reducible repeat (first | apply Kd.S_alloc | apply Kd.S_drewN | apply Kd.S_drew)); exact Kd.S_mono HO_5.out (fun k_ hk => ⟨trivial, fun e_ => hk.2 e_⟩))); (case aS => exact (below_size (by repeat (first | (with_reducible first | exact HB.out | apply below_alloc | apply pw_below_drewN | apply below_drew1) | exact HB.out)))); (case aL => have := LMc47.out; omega); intro v190 w50 ho hb hg hat; rw [← Ny189.out] at ho; replace HB := Aside0.mk (hb); have HO191 := Aside0.mk (ho); clear HO_5; clear ah; clear ho hb hg hat)); try go_wp2_with (first | (go_at_call 27; refine calls_of_args (args' := #[.slice A48 ((l0.take ((wrap64 (x6_1 + (Go.bits .or .i64 (wrap64 ((wrap64 (rd l0 (aa))) * 256)) (wrap64 (rd l0 (ad)))))) : Int).toNat).drop (x6_1 : Int).toNat).length (c0 - x6_1.toNat)]) (by first | rfl | (rw [show ((l0.take ((wrap64 (x6_1 + (Go.bits .or .i64 (wrap64 ((wrap64 (rd l0 (aa))) * 256)) (wrap64 (rd l0 (ad)))))) : Int).toNat).drop (x6_1 : Int).toNat).length = ((wrap64 (x6_1 + (Go.bits .or .i64 (wrap64 ((wrap64 (rd l0 (aa))) * 256)) (wrap64 (rd l0 (ad)))))).toNat - x6_1.toNat) from (by rw [List.length_drop, List.length_take]; have h_ : ((wrap64 (x6_1 + (Go.bits .or .i64 (wrap64 ((wrap64 (rd l0 (aa))) * 256)) (wrap64 (rd l0 (ad)))))) : Int) ≤ (l0.length : Int) := of_decide_eq_true (by first | (with_reducible assumption) | assumption); omega)] <;> rfl) | (rw [show ((l0.take ((wrap64 (x6_1 + (Go.bits .or .i64 (wrap64 ((wrap64 (rd l0 (aa))) * 256)) (wrap64 (rd l0 (ad)))))) : Int).toNat).drop (x6_1 : Int).toNat).length = ((wrap64 (x6_1 + (Go.bits .or .i64 (wrap64 ((wrap64 (rd l0 (aa))) * 256)) (wrap64 (rd l0 (ad)))))).toNat - x6_1.toNat) from (by rw [List.length_drop, List.length_take]; have h_ : ((wrap64 (x6_1 + (Go.bits .or .i64 (wrap64 ((wrap64 (rd l0 (aa))) * 256)) (wrap64 (rd l0 (ad)))))) : Int) ≤ (l0.length : Int) := of_decide_eq_true (by first | (with_reducible assumption) | assumption); omega)])) ?_; (with_reducible refine (bytes_Clone.calls _ _ ((l0.take ((wrap64 (x6_1 + (Go.bits .or .i64 (wrap64 ((wrap64 (rd l0 (aa))) * 256)) (wrap64 (rd l0 (ad)))))) : Int).toNat).drop (x6_1 : Int).toNat) t186 _ ?side1 ?side2 A46.out).mono ?_); (case side1 => repeat (first | exact (Kd.C_below HR185.out HB.out) | (with_reducible refine Kd.C_alloc ?_ _) | (with_reducible refine Kd.C_drewN ?_ _) | (with_reducible refine Kd.C_drew ?_))); (case side2 => exact HC185.out); rintro e w49 ⟨v187, rfl, ho0, hb⟩; replace HO_5 := Aside0.mk (Kd.S_elder' (by (with_reducible repeat (first | apply Kd.S_alloc | apply Kd.S_drewN | apply Kd.S_drew)); exact HO_5.out) (Kd.R_base ho0) hb); have ah := Aside0.mk (Kd.R_lower ho0 (below_size (by repeat (first | (with_reducible first | exact HB.out | apply below_alloc | apply pw_below_drewN | apply below_drew1) | exact HB.out)))); replace HB := Aside0.mk (below_step (by repeat (first | (with_reducible first | exact HB.out | apply below_alloc | apply pw_below_drewN | apply below_drew1) | exact HB.out)) hb); (try clear hb); (try clear hb2); (try clear hk); (try clear hi); (try clear ho0); obtain ⟨aj, ak, eo51⟩ := Kd.R_slice ah.out; subst eo51) | ((with_reducible refine gate_builtin (b := .append) (xs := #[.tmp 67, .tmp 75]) rfl ?_); at_builtin; refine Kd.S_append (Kd.slice 5 (Kd.int .u8)) (w0 := w) w.heap.size rfl (.tmp 67) (.tmp 75) 33 22 (.slice none 0 0) 24 rfl Try.underlying33 info22 rfl (by decide) (by omega) u5 x5_1 t186 [.slice aj t186.length ak] (fun _ => True) (fun k_ => some k_ = (.slice aj t186.length ak : Value).ownBlock) rfl rfl ?aP (fun k_ hk_ => ((Kd.R_mono (ok' := fun k_ => ((fun _ => True)) k_ ∧ some k_ ≠ (u5 : Value).ownBlock) (Kd.R_apart' (ah.out) (Kd.S_typed HO_5.out) (by decide)) (fun k_ hk => ⟨trivial, hk.2⟩))).1 k_ hk_.symm) ?aF ?aO ?aB ?aS ?aL ?_; (case aP => exact Kd.M_row (Kd.R_mono (Kd.R_tight rfl (Kd.R_mono (ok' := fun k_ => ((fun _ => True)) k_ ∧ some k_ ≠ (u5 : Value).ownBlock) (Kd.R_apart' (ah.out) (Kd.S_typed HO_5.out) (by decide)) (fun k_ hk => ⟨trivial, hk.2⟩))) (fun _ h_ => h_))); (case aB => exact (by repeat (first | (with_reducible first | exact HB.out | apply below_alloc | apply pw_below_drewN | apply below_drew1) | exact HB.out))); (case aF => exact (fun _ _ => trivial)); (case aO => exact (by (with_reducible repeat (first | apply Kd.S_alloc | apply Kd.S_drewN | apply Kd.S_drew)); exact Kd.S_mono HO_5.out (fun k_ hk => ⟨trivial, fun e_ => hk.2 e_⟩))); (case aS => exact (below_size (by repeat (first | (with_reducible first | exact HB.out | apply below_alloc | apply pw_below_drewN | apply below_drew1) | exact HB.out)))); (case aL => have := LMc47.out; omega); intro v190 w50 ho hb hg hat; rw [← Ny189.out] at ho; replace HB := Aside0.mk (hb); have HO191 := Aside0.mk (ho); clear HO_5; clear ah; clear ho hb hg hat)))
                  go_roundg kj11
                  case measure => have := HK1.out; have := HJ11.out; omega
                  case rel => exact ⟨(y189), (wrap64 (x6_1 + (Go.bits .or .i64 (wrap64 ((wrap64 (rd l0 (aa))) * 256)) (wrap64 (rd l0 (ad)))))), (by first | rfl | (simp; done) | (simp only [← hji3, ← hji6] <;> (first | rfl | simp)) | (simp [*]; done)), H', ⟨by have := HK1.out; have := HJ11.out; omega⟩, ⟨by (with_reducible repeat (first | apply Kd.S_alloc | apply Kd.S_drewN | apply Kd.S_drew)); exact HO191.out⟩, ⟨by repeat (first | (with_reducible first | exact HB.out | apply below_alloc | apply pw_below_drewN | apply below_drew1) | exact HB.out)⟩⟩
                 ·rw [if_neg c47] at H
                  exact absurd H (by simp)
                ·rw [if_neg c45] at H
                 exact absurd H (by simp)
               ·rw [if_neg c44] at H
                exact absurd H (by simp)
              ·rw [if_neg c43] at H
               exact absurd H (by simp)
         ·rw [if_neg c11] at H
          exact absurd H (by simp)
        ·rw [if_neg c10] at H
         exact absurd H (by simp)
       ·rw [if_neg c8] at H
        exact absurd H (by simp)
      ·rw [if_neg c7] at H
       exact absurd H (by simp)
     ·rw [if_neg c5] at H
      exact absurd H (by simp)
    ·rw [if_neg c4] at H
     exact absurd H (by simp)
   ·rw [if_neg c2] at H
    have c2b0 : decide (19 ≤ (wrap64 ((l0.length : Int) - x6_1))) = false := decide_eq_false c2
    clear c2
    simp only [Option.some.injEq, Prod.mk.injEq] at H
    obtain ⟨rfl, rfl, rfl⟩ := H
    go_wp2
    repeat (go_quiet (fail); try go_wp2)
    go_ret3
    exact ⟨_, by first | rfl | (simp [errW_none, errW_some] <;> rfl) | (simp [*, errW_none, errW_some] <;> rfl), by (with_reducible repeat (first | apply Kd.S_alloc | apply Kd.S_drewN | apply Kd.S_drew)); exact HO_5.out, by repeat (first | (with_reducible first | exact HB.out | apply below_alloc | apply pw_below_drewN | apply below_drew1) | exact HB.out)⟩

end Go.Proofs.Ytjmpojfpbhihpaa.P

end
section
namespace Go.Proofs.Ytjmpojfpbhihpaa.P
open Go.RowKit Go.Proofs.YtjmpojfpbhihpaaW.PrintWords Go.Proofs.YtjmpojfpbhihpaaW.PrintLast Go.Proofs.YtjmpojfpbhihpaaW.PrintMore
attribute [local go_sem] max2_int min2_int max_two min_two max_three min_three max_four min_four   -- for this text's walks alone
set_option linter.unusedVariables false
set_option linter.unusedSimpArgs false

mutual
def whirligiglaw10_WireStreams.l0 : Nat → List Int → List (List Int) → Int → Int → ByteArray → Int → Option (Bool)
  | 0, _, _, _, _, _, _ => none
  | k + 1, x0, x3, x4, x5, x6, x7 => if x7 < (x3.length : Int) then (if 0 ≤ x7 then (if ((rd_L1 x3 x7).length : Int) < 19 then (some false) else (if ((rd_L1 x3 x7).length : Int) > 4096 then (some false) else (if 16 < ((rd_L1 x3 x7).length : Int) then (if 17 < ((rd_L1 x3 x7).length : Int) then (if (wrap64 ((wrap64 ((wrap64 (rd (rd_L1 x3 x7) 16)) * 256)) + (wrap64 (rd (rd_L1 x3 x7) 17)))) = ((rd_L1 x3 x7).length : Int) then (if x6.size + (strOfNums (rd_L1 x3 x7)).size ≤ 9223372036854775807 then (whirligiglaw10_WireStreams.l0 k x0 x3 x4 x5 (x6 ++ (strOfNums (rd_L1 x3 x7))) (wrap64 (x7 + 1))) else (none)) else (some false)) else (none)) else (none)))) else (none)) else (if x4 = (x6.size : Int) then (if x4 > (x0.length : Int) then (whirligiglaw10_WireStreams.j1 k x0 x4 x5 true) else (if 0 ≤ x4 then (if x4 ≤ (x0.length : Int) then (whirligiglaw10_WireStreams.j1 k x0 x4 x5 (x6.toList != (strOfNums (x0.take (x4 : Int).toNat)).toList)) else (none)) else (none))) else (whirligiglaw10_WireStreams.j1 k x0 x4 x5 true))
def whirligiglaw10_WireStreams.j1 : Nat → List Int → Int → Int → Bool → Option (Bool)
  | 0, _, _, _, _ => none
  | k + 1, x0, x4, x5, x89 => if x89 = true then (some false) else (if 0 ≤ x4 then (if x4 ≤ (x0.length : Int) then ((wire_Split.f k (x0.drop (x4 : Int).toNat)).bind fun bt208 => (if (bt208.1.length : Int) = 0 then (if bt208.2.1 = 0 then (if bt208.2.2 = x5 then (if x5 = 0 then ((whirligiglaw10_lives.f k).bind fun t213 => (some t213)) else (if x5 = 4 then (if (wrap64 ((x0.length : Int) - x4)) ≥ 19 then ((whirligiglaw10_lives.f k).bind fun t214 => (some t214)) else (some false)) else (some false))) else (some false)) else (some false)) else (some false))) else (none)) else (none))
end
def whirligiglaw10_WireStreams.f (k : Nat) (l0 : List Int) : Option (Bool) := if (l0.length : Int) > 20000 then ((whirligiglaw10_lives.f k).bind fun t192 => (some t192)) else ((wire_Split.f k l0).bind fun bt193 => (whirligiglaw10_WireStreams.l0 k l0 bt193.1 bt193.2.1 bt193.2.2 (⟨#[]⟩ : ByteArray) 0))
theorem ke5ce.z {w0 w W W' : World} (h : Below w0.heap.size w0 w) (hb : Below W.heap.size W W') (e : W.heap = w.heap) (e1 : W.os = w.os) (e2 : W.tape = w.tape) (e3 : W.output = w.output) : Below w0.heap.size w0 W' := below_step ⟨e1.trans h.os, e2.trans h.tape, e3.trans h.output, e ▸ h.size, fun k hk => by rw [e]; exact h.block k hk⟩ hb
set_option maxHeartbeats 8000000 in
set_option maxRecDepth 100000 in
theorem whirligiglaw10_WireStreams.calls (k : Nat) (A0 : Option Addr) (c0 : Nat) (l0 : List Int) (r : Bool) (w : World) (hr0 : Kd.C (Kd.int .u8) w A0 l0.length l0) (hc0 : l0.length ≤ c0) (h : whirligiglaw10_WireStreams.f k l0 = some r) :
  Calls Try.prog 4 #[.slice A0 l0.length c0] w fun e w' => e = .returned (.bool r) ∧ Below w.heap.size w w' := by
 have ag := Aside0.mk hr0
 have ah := Aside0.mk hc0
 clear hr0 hc0
 have HB := Aside0.mk (Below.refl w.heap.size w)
 have H := h
 unfold whirligiglaw10_WireStreams.f at H
 clear h
 by_cases c2 : (l0.length : Int) > 20000
 ·rw [if_pos c2] at H
  have c2b0 : decide (20000 < (l0.length : Int)) = true := decide_eq_true c2
  have c2b1 : decide (20000 < l0.length) = true := decide_eq_true (by omega)
  clear c2
  replace H := Option.bind_eq_some_iff.mp H
  obtain ⟨t192, A30, H⟩ := H
  replace H : (some t192) = some r := H
  have A3 := Aside0.mk A30
  clear A30
  obtain rfl := Option.some.inj H
  go_enter Try.func4, Try.ntmps4
  go_wp2_with (first | (go_at_call 9; (with_reducible refine (whirligiglaw10_lives.calls k  t192 _ A3.out).mono ?_); rintro e w4 ⟨rfl, hb⟩; replace HB := Aside0.mk (ke5ce.z HB.out hb rfl rfl rfl rfl); (try clear hb); (try clear ae); (try clear hk); (try clear hi)))
  repeat (go_quiet (first | (go_at_call 9; (with_reducible refine (whirligiglaw10_lives.calls k  t192 _ A3.out).mono ?_); rintro e w4 ⟨rfl, hb⟩; replace HB := Aside0.mk (ke5ce.z HB.out hb rfl rfl rfl rfl); (try clear hb); (try clear ae); (try clear hk); (try clear hi))); try go_wp2_with (first | (go_at_call 9; (with_reducible refine (whirligiglaw10_lives.calls k  t192 _ A3.out).mono ?_); rintro e w4 ⟨rfl, hb⟩; replace HB := Aside0.mk (ke5ce.z HB.out hb rfl rfl rfl rfl); (try clear hb); (try clear ae); (try clear hk); (try clear hi))))
  go_ret
  exact ⟨by first | rfl | (simp [errW_none, errW_some] <;> rfl) | (simp [*, errW_none, errW_some] <;> rfl), by repeat (first | (with_reducible first | exact HB.out | apply below_alloc | apply pw_below_drewN | apply below_drew1) | exact HB.out)⟩
 ·rw [if_neg c2] at H
  have c2b0 : decide (20000 < (l0.length : Int)) = false := decide_eq_false c2
  have c2b1 : decide (20000 < l0.length) = false := decide_eq_false (by omega)
  clear c2
  replace H := Option.bind_eq_some_iff.mp H
  obtain ⟨⟨t193, t194, t195⟩, A50, H⟩ := H
  replace H : (whirligiglaw10_WireStreams.l0 k l0 t193 t194 t195 (⟨#[]⟩ : ByteArray) 0) = some r := H
  have A5 := Aside0.mk A50
  clear A50
  have H' := Aside0.mk H
  clear H
  go_enter Try.func4, Try.ntmps4
  go_wp2_with (first | (go_at_call 14; (with_reducible refine (wire_Split.calls k _ _ l0 t193 t194 t195 _ ?side1 ?side2 A5.out).mono ?_); (case side1 => repeat (first | exact ag.out | (with_reducible refine Kd.C_alloc ?_ _) | (with_reducible refine Kd.C_drewN ?_ _) | (with_reducible refine Kd.C_drew ?_))); (case side2 => exact ah.out); rintro e w6 ⟨v196, rfl, ho0, hb⟩; have HO197 := Aside0.mk (Kd.S_lower ho0 (below_size (by repeat (first | (with_reducible first | exact HB.out | apply below_alloc | apply pw_below_drewN | apply below_drew1) | exact HB.out)))); replace HB := Aside0.mk (ke5ce.z HB.out hb rfl rfl rfl rfl); (try clear hb); (try clear ae); (try clear hk); (try clear hi); (try clear ho0)))
  repeat (go_quiet (first | (go_at_call 14; (with_reducible refine (wire_Split.calls k _ _ l0 t193 t194 t195 _ ?side1 ?side2 A5.out).mono ?_); (case side1 => repeat (first | exact ag.out | (with_reducible refine Kd.C_alloc ?_ _) | (with_reducible refine Kd.C_drewN ?_ _) | (with_reducible refine Kd.C_drew ?_))); (case side2 => exact ah.out); rintro e w6 ⟨v196, rfl, ho0, hb⟩; have HO197 := Aside0.mk (Kd.S_lower ho0 (below_size (by repeat (first | (with_reducible first | exact HB.out | apply below_alloc | apply pw_below_drewN | apply below_drew1) | exact HB.out)))); replace HB := Aside0.mk (ke5ce.z HB.out hb rfl rfl rfl rfl); (try clear hb); (try clear ae); (try clear hk); (try clear hi); (try clear ho0))); try go_wp2_with (first | (go_at_call 14; (with_reducible refine (wire_Split.calls k _ _ l0 t193 t194 t195 _ ?side1 ?side2 A5.out).mono ?_); (case side1 => repeat (first | exact ag.out | (with_reducible refine Kd.C_alloc ?_ _) | (with_reducible refine Kd.C_drewN ?_ _) | (with_reducible refine Kd.C_drew ?_))); (case side2 => exact ah.out); rintro e w6 ⟨v196, rfl, ho0, hb⟩; have HO197 := Aside0.mk (Kd.S_lower ho0 (below_size (by repeat (first | (with_reducible first | exact HB.out | apply below_alloc | apply pw_below_drewN | apply below_drew1) | exact HB.out)))); replace HB := Aside0.mk (ke5ce.z HB.out hb rfl rfl rfl rfl); (try clear hb); (try clear ae); (try clear hk); (try clear hi); (try clear ho0))))
  go_loopg [6, 7] k (fun kq v6 v7 w' => ∃ (x6_1 : ByteArray) (x7_1 : Int), v6 = .string x6_1 ∧ v7 = .int .i64 x7_1 ∧ Aside0 (whirligiglaw10_WireStreams.l0 kq l0 t193 t194 t195 x6_1 x7_1 = some r) ∧ Aside0 (kq ≤ k) ∧ Aside0 (Kd.S (Kd.slice 5 (Kd.int .u8)) 22 w' w.heap.size (fun _ => True) v196 t193) ∧ Aside0 (Below w.heap.size w w'))
  case atStart => exact ⟨((⟨#[]⟩ : ByteArray)), (0), (by first | rfl | (simp; done) | (simp [*]; done)), (by first | rfl | (simp; done) | (simp [*]; done)), H', ⟨Nat.le_refl _⟩, ⟨by (with_reducible repeat (first | apply Kd.S_alloc | apply Kd.S_drewN | apply Kd.S_drew)); exact HO197.out⟩, ⟨by repeat (first | (with_reducible first | exact HB.out | apply below_alloc | apply pw_below_drewN | apply below_drew1) | exact HB.out)⟩⟩
  case round =>
   clear H'
   try clear c2
   try clear c2b0
   try clear c2b1
   try clear p2
   try clear c4
   obtain ⟨x6_1, x7_1, rfl, rfl, HA, HK1, HO_3, HB⟩ := hrel
   cases gk with
   | zero => exact absurd HA.out (by simp [whirligiglaw10_WireStreams.l0])
   | succ k1 =>
    have H := HA.out
    clear HA
    simp only [whirligiglaw10_WireStreams.l0] at H
    by_cases c7 : x7_1 < (t193.length : Int)
    ·rw [if_pos c7] at H
     have c7b0 : decide (x7_1 < (t193.length : Int)) = true := decide_eq_true c7
     clear c7
     by_cases c8 : 0 ≤ x7_1
     ·rw [if_pos c8] at H
      have c8b0 : decide (0 ≤ x7_1) = true := decide_eq_true c8
      clear c8
      by_cases c9 : ((rd_L1 t193 x7_1).length : Int) < 19
      ·rw [if_pos c9] at H
       have c9b0 : decide (((rd_L1 t193 x7_1).length : Int) < 19) = true := decide_eq_true c9
       have c9b1 : decide ((rd_L1 t193 x7_1).length < 19) = true := decide_eq_true (by omega)
       clear c9
       obtain rfl := Option.some.inj H
       obtain ⟨Ao10, co10, eo10⟩ := Kd.S_slice HO_3.out
       subst eo10
       have p198 : 0 ≤ (x7_1 : Int) := of_decide_eq_true (by first | (with_reducible assumption) | assumption)
       have q198 : x7_1 < (t193.length : Int) := of_decide_eq_true (by first | (with_reducible assumption) | assumption)
       obtain ⟨ad198, A198_0, c198_0, e198, hx198_0, hl198_0, hi198_0⟩ := at_L1 (Kd.S_reads' HO_3.out).2.2 x7_1 p198 q198
       (try (injection e198 with e198; replace e198 := e198.symm; subst e198; have e198 : True := trivial))
       cases e198
       obtain ⟨ce198, hce198, hMe198, hcc198⟩ := Kd.S_get HO_3.out [] x7_1 p198 (by first | exact q198 | exact of_decide_eq_true (by first | (with_reducible assumption) | assumption) | (have e_ := (Kd.S_reads' HO_3.out).1; omega))
       obtain ⟨ve198_0, rfl, ge198_0⟩ := hMe198
       have hv198_0 := hcc198 0 _ rfl
       rw [Nat.add_zero, show ((Kd.slice 5 (Kd.int .u8))).sz = 1 from rfl, Nat.mul_one] at hv198_0
       replace hv198_0 := Option.some.inj (hv198_0.symm.trans hx198_0)
       rw [hv198_0] at ge198_0
       have HL198_0 := Aside0.mk (show Kd.R (Kd.int .u8) 5 _ _ _ _ (rd_L1 t193 x7_1) from ge198_0)
       clear hv198_0 ge198_0
       clear hcc198 hce198
       have HR198_0 := Aside0.mk hi198_0
       have HC198_0 := Aside0.mk hl198_0
       clear hi198_0 hl198_0
       replace p198 := eq_true p198
       replace q198 := eq_true q198
       go_wp2
       repeat (go_quiet (fail); try go_wp2)
       go_ret
       exact ⟨by first | rfl | (simp [errW_none, errW_some] <;> rfl) | (simp [*, errW_none, errW_some] <;> rfl), by repeat (first | (with_reducible first | exact HB.out | apply below_alloc | apply pw_below_drewN | apply below_drew1) | exact HB.out)⟩
      ·rw [if_neg c9] at H
       have c9b0 : decide (((rd_L1 t193 x7_1).length : Int) < 19) = false := decide_eq_false c9
       have c9b1 : decide ((rd_L1 t193 x7_1).length < 19) = false := decide_eq_false (by omega)
       clear c9
       by_cases c11 : ((rd_L1 t193 x7_1).length : Int) > 4096
       ·rw [if_pos c11] at H
        have c11b0 : decide (4096 < ((rd_L1 t193 x7_1).length : Int)) = true := decide_eq_true c11
        have c11b1 : decide (4096 < (rd_L1 t193 x7_1).length) = true := decide_eq_true (by omega)
        clear c11
        obtain rfl := Option.some.inj H
        obtain ⟨Ao12, co12, eo12⟩ := Kd.S_slice HO_3.out
        subst eo12
        have p198 : 0 ≤ (x7_1 : Int) := of_decide_eq_true (by first | (with_reducible assumption) | assumption)
        have q198 : x7_1 < (t193.length : Int) := of_decide_eq_true (by first | (with_reducible assumption) | assumption)
        obtain ⟨ad198, A198_0, c198_0, e198, hx198_0, hl198_0, hi198_0⟩ := at_L1 (Kd.S_reads' HO_3.out).2.2 x7_1 p198 q198
        (try (injection e198 with e198; replace e198 := e198.symm; subst e198; have e198 : True := trivial))
        cases e198
        obtain ⟨ce198, hce198, hMe198, hcc198⟩ := Kd.S_get HO_3.out [] x7_1 p198 (by first | exact q198 | exact of_decide_eq_true (by first | (with_reducible assumption) | assumption) | (have e_ := (Kd.S_reads' HO_3.out).1; omega))
        obtain ⟨ve198_0, rfl, ge198_0⟩ := hMe198
        have hv198_0 := hcc198 0 _ rfl
        rw [Nat.add_zero, show ((Kd.slice 5 (Kd.int .u8))).sz = 1 from rfl, Nat.mul_one] at hv198_0
        replace hv198_0 := Option.some.inj (hv198_0.symm.trans hx198_0)
        rw [hv198_0] at ge198_0
        have HL198_0 := Aside0.mk (show Kd.R (Kd.int .u8) 5 _ _ _ _ (rd_L1 t193 x7_1) from ge198_0)
        clear hv198_0 ge198_0
        clear hcc198 hce198
        have HR198_0 := Aside0.mk hi198_0
        have HC198_0 := Aside0.mk hl198_0
        clear hi198_0 hl198_0
        replace p198 := eq_true p198
        replace q198 := eq_true q198
        have p199 : 0 ≤ (x7_1 : Int) := of_decide_eq_true (by first | (with_reducible assumption) | assumption)
        have q199 : x7_1 < (t193.length : Int) := of_decide_eq_true (by first | (with_reducible assumption) | assumption)
        obtain ⟨ad199, A199_0, c199_0, e199, hx199_0, hl199_0, hi199_0⟩ := at_L1 (Kd.S_reads' HO_3.out).2.2 x7_1 p199 q199
        obtain rfl : ad198 = ad199 := (by injection e199)
        obtain ⟨ce199, hce199, hMe199, hcc199⟩ := Kd.S_get HO_3.out [] x7_1 p199 (by first | exact q199 | exact of_decide_eq_true (by first | (with_reducible assumption) | assumption) | (have e_ := (Kd.S_reads' HO_3.out).1; omega))
        obtain ⟨ve199_0, rfl, ge199_0⟩ := hMe199
        have hv199_0 := hcc199 0 _ rfl
        rw [Nat.add_zero, show ((Kd.slice 5 (Kd.int .u8))).sz = 1 from rfl, Nat.mul_one] at hv199_0
        replace hv199_0 := Option.some.inj (hv199_0.symm.trans hx199_0)
        rw [hv199_0] at ge199_0
        have HL199_0 := Aside0.mk (show Kd.R (Kd.int .u8) 5 _ _ _ _ (rd_L1 t193 x7_1) from ge199_0)
        clear hv199_0 ge199_0
        clear hcc199 hce199
        have HR199_0 := Aside0.mk hi199_0
        have HC199_0 := Aside0.mk hl199_0
        clear hi199_0 hl199_0
        replace p199 := eq_true p199
        replace q199 := eq_true q199
        have ea_ := Option.some.inj (hx198_0.symm.trans hx199_0)
        injection ea_ with ea_ en_ ec_
        subst ea_
        subst ec_
        clear en_
        go_wp2
        repeat (go_quiet (fail); try go_wp2)
        go_ret
        exact ⟨by first | rfl | (simp [errW_none, errW_some] <;> rfl) | (simp [*, errW_none, errW_some] <;> rfl), by repeat (first | (with_reducible first | exact HB.out | apply below_alloc | apply pw_below_drewN | apply below_drew1) | exact HB.out)⟩
       ·rw [if_neg c11] at H
        have c11b0 : decide (4096 < ((rd_L1 t193 x7_1).length : Int)) = false := decide_eq_false c11
        have c11b1 : decide (4096 < (rd_L1 t193 x7_1).length) = false := decide_eq_false (by omega)
        clear c11
        by_cases c13 : 16 < ((rd_L1 t193 x7_1).length : Int)
        ·rw [if_pos c13] at H
         have c13b0 : decide (16 < ((rd_L1 t193 x7_1).length : Int)) = true := decide_eq_true c13
         have c13b1 : decide (16 < (rd_L1 t193 x7_1).length) = true := decide_eq_true (by omega)
         clear c13
         by_cases c14 : 17 < ((rd_L1 t193 x7_1).length : Int)
         ·rw [if_pos c14] at H
          have c14b0 : decide (17 < ((rd_L1 t193 x7_1).length : Int)) = true := decide_eq_true c14
          have c14b1 : decide (17 < (rd_L1 t193 x7_1).length) = true := decide_eq_true (by omega)
          clear c14
          by_cases ai : (wrap64 ((wrap64 ((wrap64 (rd (rd_L1 t193 x7_1) 16)) * 256)) + (wrap64 (rd (rd_L1 t193 x7_1) 17)))) = ((rd_L1 t193 x7_1).length : Int)
          ·rw [if_pos ai] at H
           have c15b0 : ((wrap64 ((wrap64 ((wrap64 (rd (rd_L1 t193 x7_1) 16)) * 256)) + (wrap64 (rd (rd_L1 t193 x7_1) 17)))) == ((rd_L1 t193 x7_1).length : Int)) = true := beq_iff_eq.mpr ai
           have c15b1 : ((wrap64 ((wrap64 ((wrap64 (rd (rd_L1 t193 x7_1) 16)) * 256)) + (wrap64 (rd (rd_L1 t193 x7_1) 17)))) != ((rd_L1 t193 x7_1).length : Int)) = false := bne_eq_false_iff_eq.mpr ai
           clear ai
           by_cases c16 : x6_1.size + (strOfNums (rd_L1 t193 x7_1)).size ≤ 9223372036854775807
           ·rw [if_pos c16] at H
            have c16b0 := eq_true c16
            have c16b1 : decide (x6_1.size + (strOfNums (rd_L1 t193 x7_1)).size ≤ 9223372036854775807) = true := decide_eq_true c16
            try have c16b2 : (9223372036854775807 < x6_1.size + (strOfNums (rd_L1 t193 x7_1)).size) = False := eq_false (Nat.not_lt.2 c16)
            have H' := Aside0.mk H
            clear H
            obtain ⟨Ao17, co17, eo17⟩ := Kd.S_slice HO_3.out
            subst eo17
            have p198 : 0 ≤ (x7_1 : Int) := of_decide_eq_true (by first | (with_reducible assumption) | assumption)
            have q198 : x7_1 < (t193.length : Int) := of_decide_eq_true (by first | (with_reducible assumption) | assumption)
            obtain ⟨ad198, A198_0, c198_0, e198, hx198_0, hl198_0, hi198_0⟩ := at_L1 (Kd.S_reads' HO_3.out).2.2 x7_1 p198 q198
            (try (injection e198 with e198; replace e198 := e198.symm; subst e198; have e198 : True := trivial))
            cases e198
            obtain ⟨ce198, hce198, hMe198, hcc198⟩ := Kd.S_get HO_3.out [] x7_1 p198 (by first | exact q198 | exact of_decide_eq_true (by first | (with_reducible assumption) | assumption) | (have e_ := (Kd.S_reads' HO_3.out).1; omega))
            obtain ⟨ve198_0, rfl, ge198_0⟩ := hMe198
            have hv198_0 := hcc198 0 _ rfl
            rw [Nat.add_zero, show ((Kd.slice 5 (Kd.int .u8))).sz = 1 from rfl, Nat.mul_one] at hv198_0
            replace hv198_0 := Option.some.inj (hv198_0.symm.trans hx198_0)
            rw [hv198_0] at ge198_0
            have HL198_0 := Aside0.mk (show Kd.R (Kd.int .u8) 5 _ _ _ _ (rd_L1 t193 x7_1) from ge198_0)
            clear hv198_0 ge198_0
            clear hcc198 hce198
            have HR198_0 := Aside0.mk hi198_0
            have HC198_0 := Aside0.mk hl198_0
            clear hi198_0 hl198_0
            replace p198 := eq_true p198
            replace q198 := eq_true q198
            have p199 : 0 ≤ (x7_1 : Int) := of_decide_eq_true (by first | (with_reducible assumption) | assumption)
            have q199 : x7_1 < (t193.length : Int) := of_decide_eq_true (by first | (with_reducible assumption) | assumption)
            obtain ⟨ad199, A199_0, c199_0, e199, hx199_0, hl199_0, hi199_0⟩ := at_L1 (Kd.S_reads' HO_3.out).2.2 x7_1 p199 q199
            obtain rfl : ad198 = ad199 := (by injection e199)
            obtain ⟨ce199, hce199, hMe199, hcc199⟩ := Kd.S_get HO_3.out [] x7_1 p199 (by first | exact q199 | exact of_decide_eq_true (by first | (with_reducible assumption) | assumption) | (have e_ := (Kd.S_reads' HO_3.out).1; omega))
            obtain ⟨ve199_0, rfl, ge199_0⟩ := hMe199
            have hv199_0 := hcc199 0 _ rfl
            rw [Nat.add_zero, show ((Kd.slice 5 (Kd.int .u8))).sz = 1 from rfl, Nat.mul_one] at hv199_0
            replace hv199_0 := Option.some.inj (hv199_0.symm.trans hx199_0)
            rw [hv199_0] at ge199_0
            have HL199_0 := Aside0.mk (show Kd.R (Kd.int .u8) 5 _ _ _ _ (rd_L1 t193 x7_1) from ge199_0)
            clear hv199_0 ge199_0
            clear hcc199 hce199
            have HR199_0 := Aside0.mk hi199_0
            have HC199_0 := Aside0.mk hl199_0
            clear hi199_0 hl199_0
            replace p199 := eq_true p199
            replace q199 := eq_true q199
            have ea_ := Option.some.inj (hx198_0.symm.trans hx199_0)
            injection ea_ with ea_ en_ ec_
            subst ea_
            subst ec_
            clear en_
            have p200 : 0 ≤ (x7_1 : Int) := of_decide_eq_true (by first | (with_reducible assumption) | assumption)
            have q200 : x7_1 < (t193.length : Int) := of_decide_eq_true (by first | (with_reducible assumption) | assumption)
            obtain ⟨ad200, A200_0, c200_0, e200, hx200_0, hl200_0, hi200_0⟩ := at_L1 (Kd.S_reads' HO_3.out).2.2 x7_1 p200 q200
            obtain rfl : ad198 = ad200 := (by injection e200)
            obtain ⟨ce200, hce200, hMe200, hcc200⟩ := Kd.S_get HO_3.out [] x7_1 p200 (by first | exact q200 | exact of_decide_eq_true (by first | (with_reducible assumption) | assumption) | (have e_ := (Kd.S_reads' HO_3.out).1; omega))
            obtain ⟨ve200_0, rfl, ge200_0⟩ := hMe200
            have hv200_0 := hcc200 0 _ rfl
            rw [Nat.add_zero, show ((Kd.slice 5 (Kd.int .u8))).sz = 1 from rfl, Nat.mul_one] at hv200_0
            replace hv200_0 := Option.some.inj (hv200_0.symm.trans hx200_0)
            rw [hv200_0] at ge200_0
            have HL200_0 := Aside0.mk (show Kd.R (Kd.int .u8) 5 _ _ _ _ (rd_L1 t193 x7_1) from ge200_0)
            clear hv200_0 ge200_0
            clear hcc200 hce200
            have HR200_0 := Aside0.mk hi200_0
            have HC200_0 := Aside0.mk hl200_0
            clear hi200_0 hl200_0
            replace p200 := eq_true p200
            replace q200 := eq_true q200
            have ea_ := Option.some.inj (hx198_0.symm.trans hx200_0)
            injection ea_ with ea_ en_ ec_
            subst ea_
            subst ec_
            clear en_
            have p201 : 0 ≤ (16 : Int) := (by omega)
            have q201 : 16 < ((rd_L1 t193 x7_1).length : Int) := of_decide_eq_true (by first | (with_reducible assumption) | assumption)
            obtain ⟨ad201, e201, hx201_0⟩ := Kd.at_int (by repeat (first | (with_reducible exact HR200_0.out) | (with_reducible refine Kd.C_alloc ?_ _) | (with_reducible refine Kd.C_drewN ?_ _) | (with_reducible refine Kd.C_drew ?_) | exact HR200_0.out)) 16 p201 q201
            (try (injection e201 with e201; replace e201 := e201.symm; subst e201; have e201 : True := trivial))
            cases e201
            (try simp only [show (16 : Int).toNat = 16 from rfl, Nat.reduceMul, Nat.reduceEqDiff, Go.Addr.add, ↓reduceIte] at hx201_0)
            have qi201 : (16 < (rd_L1 t193 x7_1).length) = True := eq_true (by omega)
            (try rw [show ((16 : Int)).toNat = 16 from rfl] at hx201_0)
            replace p201 := eq_true p201
            replace q201 := eq_true q201
            have p202 : 0 ≤ (x7_1 : Int) := of_decide_eq_true (by first | (with_reducible assumption) | assumption)
            have q202 : x7_1 < (t193.length : Int) := of_decide_eq_true (by first | (with_reducible assumption) | assumption)
            obtain ⟨ad202, A202_0, c202_0, e202, hx202_0, hl202_0, hi202_0⟩ := at_L1 (Kd.S_reads' HO_3.out).2.2 x7_1 p202 q202
            obtain rfl : ad198 = ad202 := (by injection e202)
            obtain ⟨ce202, hce202, hMe202, hcc202⟩ := Kd.S_get HO_3.out [] x7_1 p202 (by first | exact q202 | exact of_decide_eq_true (by first | (with_reducible assumption) | assumption) | (have e_ := (Kd.S_reads' HO_3.out).1; omega))
            obtain ⟨ve202_0, rfl, ge202_0⟩ := hMe202
            have hv202_0 := hcc202 0 _ rfl
            rw [Nat.add_zero, show ((Kd.slice 5 (Kd.int .u8))).sz = 1 from rfl, Nat.mul_one] at hv202_0
            replace hv202_0 := Option.some.inj (hv202_0.symm.trans hx202_0)
            rw [hv202_0] at ge202_0
            have HL202_0 := Aside0.mk (show Kd.R (Kd.int .u8) 5 _ _ _ _ (rd_L1 t193 x7_1) from ge202_0)
            clear hv202_0 ge202_0
            clear hcc202 hce202
            have HR202_0 := Aside0.mk hi202_0
            have HC202_0 := Aside0.mk hl202_0
            clear hi202_0 hl202_0
            replace p202 := eq_true p202
            replace q202 := eq_true q202
            have ea_ := Option.some.inj (hx198_0.symm.trans hx202_0)
            injection ea_ with ea_ en_ ec_
            subst ea_
            subst ec_
            clear en_
            have p203 : 0 ≤ (17 : Int) := (by omega)
            have q203 : 17 < ((rd_L1 t193 x7_1).length : Int) := of_decide_eq_true (by first | (with_reducible assumption) | assumption)
            obtain ⟨ad203, e203, hx203_0⟩ := Kd.at_int (by repeat (first | (with_reducible exact HR202_0.out) | (with_reducible refine Kd.C_alloc ?_ _) | (with_reducible refine Kd.C_drewN ?_ _) | (with_reducible refine Kd.C_drew ?_) | exact HR202_0.out)) 17 p203 q203
            (try (injection e203 with e203; replace e203 := e203.symm; subst e203; have e203 : True := trivial))
            cases e203
            (try simp only [show (17 : Int).toNat = 17 from rfl, Nat.reduceMul, Nat.reduceEqDiff, Go.Addr.add, ↓reduceIte] at hx203_0)
            have qi203 : (17 < (rd_L1 t193 x7_1).length) = True := eq_true (by omega)
            (try rw [show ((17 : Int)).toNat = 17 from rfl] at hx203_0)
            replace p203 := eq_true p203
            replace q203 := eq_true q203
            have p204 : 0 ≤ (x7_1 : Int) := of_decide_eq_true (by first | (with_reducible assumption) | assumption)
            have q204 : x7_1 < (t193.length : Int) := of_decide_eq_true (by first | (with_reducible assumption) | assumption)
            obtain ⟨ad204, A204_0, c204_0, e204, hx204_0, hl204_0, hi204_0⟩ := at_L1 (Kd.S_reads' HO_3.out).2.2 x7_1 p204 q204
            obtain rfl : ad198 = ad204 := (by injection e204)
            obtain ⟨ce204, hce204, hMe204, hcc204⟩ := Kd.S_get HO_3.out [] x7_1 p204 (by first | exact q204 | exact of_decide_eq_true (by first | (with_reducible assumption) | assumption) | (have e_ := (Kd.S_reads' HO_3.out).1; omega))
            obtain ⟨ve204_0, rfl, ge204_0⟩ := hMe204
            have hv204_0 := hcc204 0 _ rfl
            rw [Nat.add_zero, show ((Kd.slice 5 (Kd.int .u8))).sz = 1 from rfl, Nat.mul_one] at hv204_0
            replace hv204_0 := Option.some.inj (hv204_0.symm.trans hx204_0)
            rw [hv204_0] at ge204_0
            have HL204_0 := Aside0.mk (show Kd.R (Kd.int .u8) 5 _ _ _ _ (rd_L1 t193 x7_1) from ge204_0)
            clear hv204_0 ge204_0
            clear hcc204 hce204
            have HR204_0 := Aside0.mk hi204_0
            have HC204_0 := Aside0.mk hl204_0
            clear hi204_0 hl204_0
            replace p204 := eq_true p204
            replace q204 := eq_true q204
            have ea_ := Option.some.inj (hx198_0.symm.trans hx204_0)
            injection ea_ with ea_ en_ ec_
            subst ea_
            subst ec_
            clear en_
            have p205 : 0 ≤ (x7_1 : Int) := of_decide_eq_true (by first | (with_reducible assumption) | assumption)
            have q205 : x7_1 < (t193.length : Int) := of_decide_eq_true (by first | (with_reducible assumption) | assumption)
            obtain ⟨ad205, A205_0, c205_0, e205, hx205_0, hl205_0, hi205_0⟩ := at_L1 (Kd.S_reads' HO_3.out).2.2 x7_1 p205 q205
            obtain rfl : ad198 = ad205 := (by injection e205)
            obtain ⟨ce205, hce205, hMe205, hcc205⟩ := Kd.S_get HO_3.out [] x7_1 p205 (by first | exact q205 | exact of_decide_eq_true (by first | (with_reducible assumption) | assumption) | (have e_ := (Kd.S_reads' HO_3.out).1; omega))
            obtain ⟨ve205_0, rfl, ge205_0⟩ := hMe205
            have hv205_0 := hcc205 0 _ rfl
            rw [Nat.add_zero, show ((Kd.slice 5 (Kd.int .u8))).sz = 1 from rfl, Nat.mul_one] at hv205_0
            replace hv205_0 := Option.some.inj (hv205_0.symm.trans hx205_0)
            rw [hv205_0] at ge205_0
            have HL205_0 := Aside0.mk (show Kd.R (Kd.int .u8) 5 _ _ _ _ (rd_L1 t193 x7_1) from ge205_0)
            clear hv205_0 ge205_0
            clear hcc205 hce205
            have HR205_0 := Aside0.mk hi205_0
            have HC205_0 := Aside0.mk hl205_0
            clear hi205_0 hl205_0
            replace p205 := eq_true p205
            replace q205 := eq_true q205
            have ea_ := Option.some.inj (hx198_0.symm.trans hx205_0)
            injection ea_ with ea_ en_ ec_
            subst ea_
            subst ec_
            clear en_
            have hcv18 := Kd.C_string (P := Try.prog) (A := (some ad203)) (c := c198_0) Try.underlying22 Try.underlying5 Try.underlying9 (by repeat (first | (with_reducible exact HR205_0.out) | (with_reducible refine Kd.C_alloc ?_ _) | (with_reducible refine Kd.C_drewN ?_ _) | (with_reducible refine Kd.C_drew ?_) | exact HR205_0.out))
            (try have hcvm18 := fun m_ : Nat => Kd.C_string (P := Try.prog) (A := (some ad203)) (c := c198_0) Try.underlying22 Try.underlying5 Try.underlying9 (Kd.C_drewN (by repeat (first | (with_reducible exact HR205_0.out) | (with_reducible refine Kd.C_alloc ?_ _) | (with_reducible refine Kd.C_drewN ?_ _) | (with_reducible refine Kd.C_drew ?_) | exact HR205_0.out)) m_))
            go_wp2
            repeat (go_quiet (fail); try go_wp2)
            go_roundg k1
            case measure => have := HK1.out; omega
            case rel => exact ⟨(x6_1 ++ (strOfNums (rd_L1 t193 x7_1))), (wrap64 (x7_1 + 1)), (by first | rfl | (simp; done) | (simp [*]; done)), (by first | rfl | (simp; done) | (simp [*]; done)), H', ⟨by have := HK1.out; omega⟩, ⟨by (with_reducible repeat (first | apply Kd.S_alloc | apply Kd.S_drewN | apply Kd.S_drew)); exact HO_3.out⟩, ⟨by repeat (first | (with_reducible first | exact HB.out | apply below_alloc | apply pw_below_drewN | apply below_drew1) | exact HB.out)⟩⟩
           ·rw [if_neg c16] at H
            exact absurd H (by simp)
          ·rw [if_neg ai] at H
           have c15b0 : ((wrap64 ((wrap64 ((wrap64 (rd (rd_L1 t193 x7_1) 16)) * 256)) + (wrap64 (rd (rd_L1 t193 x7_1) 17)))) == ((rd_L1 t193 x7_1).length : Int)) = false := beq_eq_false_iff_ne.mpr ai
           have c15b1 : ((wrap64 ((wrap64 ((wrap64 (rd (rd_L1 t193 x7_1) 16)) * 256)) + (wrap64 (rd (rd_L1 t193 x7_1) 17)))) != ((rd_L1 t193 x7_1).length : Int)) = true := bne_iff_ne.mpr ai
           obtain rfl := Option.some.inj H
           obtain ⟨Ao19, co19, eo19⟩ := Kd.S_slice HO_3.out
           subst eo19
           have p198 : 0 ≤ (x7_1 : Int) := of_decide_eq_true (by first | (with_reducible assumption) | assumption)
           have q198 : x7_1 < (t193.length : Int) := of_decide_eq_true (by first | (with_reducible assumption) | assumption)
           obtain ⟨ad198, A198_0, c198_0, e198, hx198_0, hl198_0, hi198_0⟩ := at_L1 (Kd.S_reads' HO_3.out).2.2 x7_1 p198 q198
           (try (injection e198 with e198; replace e198 := e198.symm; subst e198; have e198 : True := trivial))
           cases e198
           obtain ⟨ce198, hce198, hMe198, hcc198⟩ := Kd.S_get HO_3.out [] x7_1 p198 (by first | exact q198 | exact of_decide_eq_true (by first | (with_reducible assumption) | assumption) | (have e_ := (Kd.S_reads' HO_3.out).1; omega))
           obtain ⟨ve198_0, rfl, ge198_0⟩ := hMe198
           have hv198_0 := hcc198 0 _ rfl
           rw [Nat.add_zero, show ((Kd.slice 5 (Kd.int .u8))).sz = 1 from rfl, Nat.mul_one] at hv198_0
           replace hv198_0 := Option.some.inj (hv198_0.symm.trans hx198_0)
           rw [hv198_0] at ge198_0
           have HL198_0 := Aside0.mk (show Kd.R (Kd.int .u8) 5 _ _ _ _ (rd_L1 t193 x7_1) from ge198_0)
           clear hv198_0 ge198_0
           clear hcc198 hce198
           have HR198_0 := Aside0.mk hi198_0
           have HC198_0 := Aside0.mk hl198_0
           clear hi198_0 hl198_0
           replace p198 := eq_true p198
           replace q198 := eq_true q198
           have p199 : 0 ≤ (x7_1 : Int) := of_decide_eq_true (by first | (with_reducible assumption) | assumption)
           have q199 : x7_1 < (t193.length : Int) := of_decide_eq_true (by first | (with_reducible assumption) | assumption)
           obtain ⟨ad199, A199_0, c199_0, e199, hx199_0, hl199_0, hi199_0⟩ := at_L1 (Kd.S_reads' HO_3.out).2.2 x7_1 p199 q199
           obtain rfl : ad198 = ad199 := (by injection e199)
           obtain ⟨ce199, hce199, hMe199, hcc199⟩ := Kd.S_get HO_3.out [] x7_1 p199 (by first | exact q199 | exact of_decide_eq_true (by first | (with_reducible assumption) | assumption) | (have e_ := (Kd.S_reads' HO_3.out).1; omega))
           obtain ⟨ve199_0, rfl, ge199_0⟩ := hMe199
           have hv199_0 := hcc199 0 _ rfl
           rw [Nat.add_zero, show ((Kd.slice 5 (Kd.int .u8))).sz = 1 from rfl, Nat.mul_one] at hv199_0
           replace hv199_0 := Option.some.inj (hv199_0.symm.trans hx199_0)
           rw [hv199_0] at ge199_0
           have HL199_0 := Aside0.mk (show Kd.R (Kd.int .u8) 5 _ _ _ _ (rd_L1 t193 x7_1) from ge199_0)
           clear hv199_0 ge199_0
           clear hcc199 hce199
           have HR199_0 := Aside0.mk hi199_0
           have HC199_0 := Aside0.mk hl199_0
           clear hi199_0 hl199_0
           replace p199 := eq_true p199
           replace q199 := eq_true q199
           have ea_ := Option.some.inj (hx198_0.symm.trans hx199_0)
           injection ea_ with ea_ en_ ec_
           subst ea_
           subst ec_
           clear en_
           have p200 : 0 ≤ (x7_1 : Int) := of_decide_eq_true (by first | (with_reducible assumption) | assumption)
           have q200 : x7_1 < (t193.length : Int) := of_decide_eq_true (by first | (with_reducible assumption) | assumption)
           obtain ⟨ad200, A200_0, c200_0, e200, hx200_0, hl200_0, hi200_0⟩ := at_L1 (Kd.S_reads' HO_3.out).2.2 x7_1 p200 q200
           obtain rfl : ad198 = ad200 := (by injection e200)
           obtain ⟨ce200, hce200, hMe200, hcc200⟩ := Kd.S_get HO_3.out [] x7_1 p200 (by first | exact q200 | exact of_decide_eq_true (by first | (with_reducible assumption) | assumption) | (have e_ := (Kd.S_reads' HO_3.out).1; omega))
           obtain ⟨ve200_0, rfl, ge200_0⟩ := hMe200
           have hv200_0 := hcc200 0 _ rfl
           rw [Nat.add_zero, show ((Kd.slice 5 (Kd.int .u8))).sz = 1 from rfl, Nat.mul_one] at hv200_0
           replace hv200_0 := Option.some.inj (hv200_0.symm.trans hx200_0)
           rw [hv200_0] at ge200_0
           have HL200_0 := Aside0.mk (show Kd.R (Kd.int .u8) 5 _ _ _ _ (rd_L1 t193 x7_1) from ge200_0)
           clear hv200_0 ge200_0
           clear hcc200 hce200
           have HR200_0 := Aside0.mk hi200_0
           have HC200_0 := Aside0.mk hl200_0
           clear hi200_0 hl200_0
           replace p200 := eq_true p200
           replace q200 := eq_true q200
           have ea_ := Option.some.inj (hx198_0.symm.trans hx200_0)
           injection ea_ with ea_ en_ ec_
           subst ea_
           subst ec_
           clear en_
           have p201 : 0 ≤ (16 : Int) := (by omega)
           have q201 : 16 < ((rd_L1 t193 x7_1).length : Int) := of_decide_eq_true (by first | (with_reducible assumption) | assumption)
           obtain ⟨ad201, e201, hx201_0⟩ := Kd.at_int (by repeat (first | (with_reducible exact HR200_0.out) | (with_reducible refine Kd.C_alloc ?_ _) | (with_reducible refine Kd.C_drewN ?_ _) | (with_reducible refine Kd.C_drew ?_) | exact HR200_0.out)) 16 p201 q201
           (try (injection e201 with e201; replace e201 := e201.symm; subst e201; have e201 : True := trivial))
           cases e201
           (try simp only [show (16 : Int).toNat = 16 from rfl, Nat.reduceMul, Nat.reduceEqDiff, Go.Addr.add, ↓reduceIte] at hx201_0)
           have qi201 : (16 < (rd_L1 t193 x7_1).length) = True := eq_true (by omega)
           (try rw [show ((16 : Int)).toNat = 16 from rfl] at hx201_0)
           replace p201 := eq_true p201
           replace q201 := eq_true q201
           have p202 : 0 ≤ (x7_1 : Int) := of_decide_eq_true (by first | (with_reducible assumption) | assumption)
           have q202 : x7_1 < (t193.length : Int) := of_decide_eq_true (by first | (with_reducible assumption) | assumption)
           obtain ⟨ad202, A202_0, c202_0, e202, hx202_0, hl202_0, hi202_0⟩ := at_L1 (Kd.S_reads' HO_3.out).2.2 x7_1 p202 q202
           obtain rfl : ad198 = ad202 := (by injection e202)
           obtain ⟨ce202, hce202, hMe202, hcc202⟩ := Kd.S_get HO_3.out [] x7_1 p202 (by first | exact q202 | exact of_decide_eq_true (by first | (with_reducible assumption) | assumption) | (have e_ := (Kd.S_reads' HO_3.out).1; omega))
           obtain ⟨ve202_0, rfl, ge202_0⟩ := hMe202
           have hv202_0 := hcc202 0 _ rfl
           rw [Nat.add_zero, show ((Kd.slice 5 (Kd.int .u8))).sz = 1 from rfl, Nat.mul_one] at hv202_0
           replace hv202_0 := Option.some.inj (hv202_0.symm.trans hx202_0)
           rw [hv202_0] at ge202_0
           have HL202_0 := Aside0.mk (show Kd.R (Kd.int .u8) 5 _ _ _ _ (rd_L1 t193 x7_1) from ge202_0)
           clear hv202_0 ge202_0
           clear hcc202 hce202
           have HR202_0 := Aside0.mk hi202_0
           have HC202_0 := Aside0.mk hl202_0
           clear hi202_0 hl202_0
           replace p202 := eq_true p202
           replace q202 := eq_true q202
           have ea_ := Option.some.inj (hx198_0.symm.trans hx202_0)
           injection ea_ with ea_ en_ ec_
           subst ea_
           subst ec_
           clear en_
           have p203 : 0 ≤ (17 : Int) := (by omega)
           have q203 : 17 < ((rd_L1 t193 x7_1).length : Int) := of_decide_eq_true (by first | (with_reducible assumption) | assumption)
           obtain ⟨ad203, e203, hx203_0⟩ := Kd.at_int (by repeat (first | (with_reducible exact HR202_0.out) | (with_reducible refine Kd.C_alloc ?_ _) | (with_reducible refine Kd.C_drewN ?_ _) | (with_reducible refine Kd.C_drew ?_) | exact HR202_0.out)) 17 p203 q203
           (try (injection e203 with e203; replace e203 := e203.symm; subst e203; have e203 : True := trivial))
           cases e203
           (try simp only [show (17 : Int).toNat = 17 from rfl, Nat.reduceMul, Nat.reduceEqDiff, Go.Addr.add, ↓reduceIte] at hx203_0)
           have qi203 : (17 < (rd_L1 t193 x7_1).length) = True := eq_true (by omega)
           (try rw [show ((17 : Int)).toNat = 17 from rfl] at hx203_0)
           replace p203 := eq_true p203
           replace q203 := eq_true q203
           have p204 : 0 ≤ (x7_1 : Int) := of_decide_eq_true (by first | (with_reducible assumption) | assumption)
           have q204 : x7_1 < (t193.length : Int) := of_decide_eq_true (by first | (with_reducible assumption) | assumption)
           obtain ⟨ad204, A204_0, c204_0, e204, hx204_0, hl204_0, hi204_0⟩ := at_L1 (Kd.S_reads' HO_3.out).2.2 x7_1 p204 q204
           obtain rfl : ad198 = ad204 := (by injection e204)
           obtain ⟨ce204, hce204, hMe204, hcc204⟩ := Kd.S_get HO_3.out [] x7_1 p204 (by first | exact q204 | exact of_decide_eq_true (by first | (with_reducible assumption) | assumption) | (have e_ := (Kd.S_reads' HO_3.out).1; omega))
           obtain ⟨ve204_0, rfl, ge204_0⟩ := hMe204
           have hv204_0 := hcc204 0 _ rfl
           rw [Nat.add_zero, show ((Kd.slice 5 (Kd.int .u8))).sz = 1 from rfl, Nat.mul_one] at hv204_0
           replace hv204_0 := Option.some.inj (hv204_0.symm.trans hx204_0)
           rw [hv204_0] at ge204_0
           have HL204_0 := Aside0.mk (show Kd.R (Kd.int .u8) 5 _ _ _ _ (rd_L1 t193 x7_1) from ge204_0)
           clear hv204_0 ge204_0
           clear hcc204 hce204
           have HR204_0 := Aside0.mk hi204_0
           have HC204_0 := Aside0.mk hl204_0
           clear hi204_0 hl204_0
           replace p204 := eq_true p204
           replace q204 := eq_true q204
           have ea_ := Option.some.inj (hx198_0.symm.trans hx204_0)
           injection ea_ with ea_ en_ ec_
           subst ea_
           subst ec_
           clear en_
           go_wp2
           repeat (go_quiet (fail); try go_wp2)
           go_ret
           exact ⟨by first | rfl | (simp [errW_none, errW_some] <;> rfl) | (simp [*, errW_none, errW_some] <;> rfl), by repeat (first | (with_reducible first | exact HB.out | apply below_alloc | apply pw_below_drewN | apply below_drew1) | exact HB.out)⟩
         ·rw [if_neg c14] at H
          exact absurd H (by simp)
        ·rw [if_neg c13] at H
         exact absurd H (by simp)
     ·rw [if_neg c8] at H
      exact absurd H (by simp)
    ·rw [if_neg c7] at H
     have c7b0 : decide (x7_1 < (t193.length : Int)) = false := decide_eq_false c7
     clear c7
     have HC20 := Aside0.mk H
     clear H
     obtain ⟨Ao21, co21, eo21⟩ := Kd.S_slice HO_3.out
     subst eo21
     go_upto_region 11 with (fail)
     repeat (go_quiet (fail); go_upto_region 11 with (fail))
     go_cut [89] (fun v89 wc => ∃ (kq : Nat) (x89_19 : Bool), v89 = .bool x89_19 ∧ Aside0 (whirligiglaw10_WireStreams.j1 kq l0 t194 t195 x89_19 = some r) ∧ Aside0 (kq ≤ k1) ∧ Aside0 (Below w.heap.size w wc))
     case first =>
      have H := HC20.out
      clear HC20
      by_cases aj : t194 = (x6_1.size : Int)
      ·rw [if_pos aj] at H
       have c22b0 : (t194 == (x6_1.size : Int)) = true := beq_iff_eq.mpr aj
       have c22b1 : (t194 != (x6_1.size : Int)) = false := bne_eq_false_iff_eq.mpr aj
       clear aj
       (first | rw [c22b0] | (simp only [i64_w]; rw [c22b0]) | skip)
       by_cases c23 : t194 > (l0.length : Int)
       ·rw [if_pos c23] at H
        have c23b0 : decide ((l0.length : Int) < t194) = true := decide_eq_true c23
        clear c23
        have H' := Aside0.mk H
        clear H
        go_wp2
        repeat (go_quiet (fail); try go_wp2)
        go_meet
        case rel => exact ⟨_, (true), (by first | rfl | (simp; done) | (simp [*]; done)), H', ⟨by have := HK1.out; first | omega | exact Nat.le_refl _⟩, ⟨by repeat (first | (with_reducible first | exact HB.out | apply below_alloc | apply pw_below_drewN | apply below_drew1) | exact HB.out)⟩⟩
       ·rw [if_neg c23] at H
        have c23b0 : decide ((l0.length : Int) < t194) = false := decide_eq_false c23
        clear c23
        by_cases c24 : 0 ≤ t194
        ·rw [if_pos c24] at H
         have c24b0 := eq_true c24
         have c24b1 : decide (0 ≤ t194) = true := decide_eq_true c24
         clear c24
         by_cases c25 : t194 ≤ (l0.length : Int)
         ·rw [if_pos c25] at H
          have c25b0 := eq_true c25
          have c25b1 : decide (t194 ≤ (l0.length : Int)) = true := decide_eq_true c25
          clear c25
          have H' := Aside0.mk H
          clear H
          obtain ⟨i026, hi026, _, hsz26, _⟩ := info_parts info5
          obtain ⟨hcut26, hA26, hC26⟩ := print_take_of (P := Try.prog) (Value.int .u8) 0 22 5 .i64 Try.underlying22 hi026 hsz26 A0 c0 l0 t194 (of_decide_eq_true (by first | (with_reducible assumption) | assumption)) (of_decide_eq_true (by first | (with_reducible assumption) | assumption)) ah.out
          have HR206 := Aside0.mk (Kd.C_of_reads (h1 := fun _ => rfl) (hA26 _ (Kd.reads_of_C ag.out)))
          have HC206 := Aside0.mk hC26
          clear hA26 hC26 hi026 hsz26
          have hcv27 := Kd.C_string (P := Try.prog) (A := A0) (c := c0) Try.underlying22 Try.underlying5 Try.underlying9 (Kd.C_below HR206.out HB.out)
          (try have hcvm27 := fun m_ : Nat => Kd.C_string (P := Try.prog) (A := A0) (c := c0) Try.underlying22 Try.underlying5 Try.underlying9 (Kd.C_drewN (Kd.C_below HR206.out HB.out) m_))
          (try (have hcvl27 := hcv27; rw [show (l0.take (t194 : Int).toNat).length = t194.toNat from (by rw [List.length_take]; have h_ : (t194 : Int) ≤ (l0.length : Int) := of_decide_eq_true (by first | (with_reducible assumption) | assumption); omega)] at hcvl27))
          (try (have hcvk27 := hcvm27; simp only [show (l0.take (t194 : Int).toNat).length = t194.toNat from (by rw [List.length_take]; have h_ : (t194 : Int) ≤ (l0.length : Int) := of_decide_eq_true (by first | (with_reducible assumption) | assumption); omega)] at hcvk27))
          go_wp2
          repeat (go_quiet (fail); try go_wp2)
          go_meet
          case rel => exact ⟨_, ((x6_1.toList != (strOfNums (l0.take (t194 : Int).toNat)).toList)), (by first | rfl | (simp; done) | (simp [*]; done)), H', ⟨by have := HK1.out; first | omega | exact Nat.le_refl _⟩, ⟨by repeat (first | (with_reducible first | exact HB.out | apply below_alloc | apply pw_below_drewN | apply below_drew1) | exact HB.out)⟩⟩
         ·rw [if_neg c25] at H
          exact absurd H (by simp)
        ·rw [if_neg c24] at H
         exact absurd H (by simp)
      ·rw [if_neg aj] at H
       have c22b0 : (t194 == (x6_1.size : Int)) = false := beq_eq_false_iff_ne.mpr aj
       have c22b1 : (t194 != (x6_1.size : Int)) = true := bne_iff_ne.mpr aj
       (first | rw [c22b0] | (simp only [i64_w]; rw [c22b0]) | skip)
       have H' := Aside0.mk H
       clear H
       go_wp2
       repeat (go_quiet (fail); try go_wp2)
       go_meet
       case rel => exact ⟨_, (true), (by first | rfl | (simp; done) | (simp [*]; done)), H', ⟨by have := HK1.out; first | omega | exact Nat.le_refl _⟩, ⟨by repeat (first | (with_reducible first | exact HB.out | apply below_alloc | apply pw_below_drewN | apply below_drew1) | exact HB.out)⟩⟩
     case rest =>
      clear HC20
      try clear c1
      try clear p1
      try clear q1
      try clear hx1
      try clear hcv1
      try clear c2
      try clear c2b0
      try clear c2b1
      try clear p2
      try clear q2
      try clear hx2
      try clear hcv2
      try clear qi2
      try clear c4
      try clear p6
      try clear c7
      try clear c7b0
      try clear c8
      try clear c8b0
      try clear c9
      try clear c9b0
      try clear c9b1
      try clear c11
      try clear c11b0
      try clear c11b1
      try clear c13
      try clear c13b0
      try clear c13b1
      try clear c14
      try clear c14b0
      try clear c14b1
      try clear ai
      try clear c15b0
      try clear c15b1
      try clear c16
      try clear c16b0
      try clear c16b1
      try clear c16b2
      try clear hcv18
      try clear c19
      try clear p19
      try clear q19
      try clear hx19
      try clear c20
      try clear p20
      try clear q20
      try clear hx20
      try clear qi20
      try clear aj
      try clear c22b0
      try clear c22b1
      try clear c23
      try clear c23b0
      try clear c24
      try clear c24b0
      try clear c24b1
      try clear c25
      try clear c25b0
      try clear c25b1
      try clear hcv27
      try clear hx198_0
      try clear hx199_0
      try clear hx200_0
      try clear hx201_0
      try clear hx202_0
      try clear hx203_0
      try clear hx204_0
      try clear hx205_0
      try clear p198
      try clear p199
      try clear p2
      try clear p200
      try clear p201
      try clear p202
      try clear p203
      try clear p204
      try clear p205
      try clear q198
      try clear q199
      try clear q200
      try clear q201
      try clear q202
      try clear q203
      try clear q204
      try clear q205
      obtain ⟨kq, x89_19, rfl, HA, HJ19, HB⟩ := hcut
      cases kq with
      | zero => exact absurd HA.out (by simp [whirligiglaw10_WireStreams.j1])
      | succ ad =>
       have H := HA.out
       clear HA
       simp only [whirligiglaw10_WireStreams.j1] at H
       by_cases c28 : x89_19 = true
       ·subst c28
        have H1 : (some false) = some r := by rw [if_pos rfl] at H; exact H
        clear H
        have H := H1
        clear H1
        obtain rfl := Option.some.inj H
        go_wp2
        repeat (go_quiet (fail); try go_wp2)
        go_ret
        exact ⟨by first | rfl | (simp [errW_none, errW_some] <;> rfl) | (simp [*, errW_none, errW_some] <;> rfl), by repeat (first | (with_reducible first | exact HB.out | apply below_alloc | apply pw_below_drewN | apply below_drew1) | exact HB.out)⟩
       ·replace c28 := Bool.eq_false_iff.mpr c28
        subst c28
        have H1 := H
        rw [if_neg (show ¬ (false = true) by decide)] at H1
        clear H
        have H := H1
        clear H1
        by_cases c29 : 0 ≤ t194
        ·rw [if_pos c29] at H
         have c29b0 := eq_true c29
         have c29b1 : decide (0 ≤ t194) = true := decide_eq_true c29
         clear c29
         by_cases c30 : t194 ≤ (l0.length : Int)
         ·rw [if_pos c30] at H
          have c30b0 := eq_true c30
          have c30b1 : decide (t194 ≤ (l0.length : Int)) = true := decide_eq_true c30
          clear c30
          replace H := Option.bind_eq_some_iff.mp H
          obtain ⟨⟨t208, t209, t210⟩, A310, H⟩ := H
          (try dsimp only at H)
          have af := Aside0.mk A310
          clear A310
          by_cases ak : (t208.length : Int) = 0
          ·rw [if_pos ak] at H
           have c32b0 : ((t208.length : Int) == 0) = true := beq_iff_eq.mpr ak
           have c32b1 : ((t208.length : Int) != 0) = false := bne_eq_false_iff_eq.mpr ak
           clear ak
           by_cases c33 : t209 = 0
           ·rw [if_pos c33] at H
            have c33b0 : (t209 == 0) = true := beq_iff_eq.mpr c33
            have c33b1 : (t209 != 0) = false := bne_eq_false_iff_eq.mpr c33
            clear c33
            by_cases c34 : t210 = t195
            ·rw [if_pos c34] at H
             have c34b0 : (t210 == t195) = true := beq_iff_eq.mpr c34
             have c34b1 : (t210 != t195) = false := bne_eq_false_iff_eq.mpr c34
             clear c34
             by_cases c35 : t195 = 0
             ·rw [if_pos c35] at H
              have c35b0 : (t195 == 0) = true := beq_iff_eq.mpr c35
              have c35b1 : (t195 != 0) = false := bne_eq_false_iff_eq.mpr c35
              clear c35
              replace H := Option.bind_eq_some_iff.mp H
              obtain ⟨t213, A360, H⟩ := H
              replace H : (some t213) = some r := H
              have A36 := Aside0.mk A360
              clear A360
              obtain rfl := Option.some.inj H
              obtain ⟨i037, hi037, _, hsz37, _⟩ := info_parts info5
              obtain ⟨A37, hcut37, hA37, hC37⟩ := print_drop_of (P := Try.prog) (Value.int .u8) 0 22 5 .i64 Try.underlying22 hi037 hsz37 A0 c0 l0 t194 (of_decide_eq_true (by first | (with_reducible assumption) | assumption)) (of_decide_eq_true (by first | (with_reducible assumption) | assumption)) ah.out
              have ab := Aside0.mk (Kd.C_of_reads (h1 := fun _ => rfl) (hA37 _ (Kd.reads_of_C ag.out)))
              have ac := Aside0.mk hC37
              clear hA37 hC37 hi037 hsz37
              go_wp2_with (first | (go_at_call 14; refine calls_of_args (args' := #[.slice A37 (l0.drop (t194 : Int).toNat).length (c0 - t194.toNat)]) (by first | rfl | (rw [show (l0.drop (t194 : Int).toNat).length = (l0.length - t194.toNat) from List.length_drop] <;> rfl) | (rw [show (l0.drop (t194 : Int).toNat).length = (l0.length - t194.toNat) from List.length_drop])) ?_; (with_reducible refine (wire_Split.calls ad _ _ (l0.drop (t194 : Int).toNat) t208 t209 t210 _ ?side1 ?side2 af.out).mono ?_); (case side1 => repeat (first | exact (Kd.C_below ab.out HB.out) | (with_reducible refine Kd.C_alloc ?_ _) | (with_reducible refine Kd.C_drewN ?_ _) | (with_reducible refine Kd.C_drew ?_))); (case side2 => exact ac.out); rintro e w38 ⟨v211, rfl, ho0, hb⟩; have aa := Aside0.mk (Kd.S_lower ho0 (below_size (by repeat (first | (with_reducible first | exact HB.out | apply below_alloc | apply pw_below_drewN | apply below_drew1) | exact HB.out)))); replace HB := Aside0.mk (ke5ce.z HB.out hb rfl rfl rfl rfl); (try clear hb); (try clear ae); (try clear hk); (try clear hi); (try clear ho0); obtain ⟨Ao39, co39, eo39⟩ := Kd.S_slice aa.out; subst eo39) | (go_at_call 9; (with_reducible refine (whirligiglaw10_lives.calls ad  t213 _ A36.out).mono ?_); rintro e w40 ⟨rfl, hb⟩; replace aa := Aside0.mk (Kd.S_below (by (with_reducible repeat (first | apply Kd.S_alloc | apply Kd.S_drewN | apply Kd.S_drew)); exact aa.out) hb); replace HB := Aside0.mk (ke5ce.z HB.out hb rfl rfl rfl rfl); (try clear hb); (try clear ae); (try clear hk); (try clear hi)))
              repeat (go_quiet (first | (go_at_call 14; refine calls_of_args (args' := #[.slice A37 (l0.drop (t194 : Int).toNat).length (c0 - t194.toNat)]) (by first | rfl | (rw [show (l0.drop (t194 : Int).toNat).length = (l0.length - t194.toNat) from List.length_drop] <;> rfl) | (rw [show (l0.drop (t194 : Int).toNat).length = (l0.length - t194.toNat) from List.length_drop])) ?_; (with_reducible refine (wire_Split.calls ad _ _ (l0.drop (t194 : Int).toNat) t208 t209 t210 _ ?side1 ?side2 af.out).mono ?_); (case side1 => repeat (first | exact (Kd.C_below ab.out HB.out) | (with_reducible refine Kd.C_alloc ?_ _) | (with_reducible refine Kd.C_drewN ?_ _) | (with_reducible refine Kd.C_drew ?_))); (case side2 => exact ac.out); rintro e w38 ⟨v211, rfl, ho0, hb⟩; have aa := Aside0.mk (Kd.S_lower ho0 (below_size (by repeat (first | (with_reducible first | exact HB.out | apply below_alloc | apply pw_below_drewN | apply below_drew1) | exact HB.out)))); replace HB := Aside0.mk (ke5ce.z HB.out hb rfl rfl rfl rfl); (try clear hb); (try clear ae); (try clear hk); (try clear hi); (try clear ho0); obtain ⟨Ao39, co39, eo39⟩ := Kd.S_slice aa.out; subst eo39) | (go_at_call 9; (with_reducible refine (whirligiglaw10_lives.calls ad  t213 _ A36.out).mono ?_); rintro e w40 ⟨rfl, hb⟩; replace aa := Aside0.mk (Kd.S_below (by (with_reducible repeat (first | apply Kd.S_alloc | apply Kd.S_drewN | apply Kd.S_drew)); exact aa.out) hb); replace HB := Aside0.mk (ke5ce.z HB.out hb rfl rfl rfl rfl); (try clear hb); (try clear ae); (try clear hk); (try clear hi))); try go_wp2_with (first | (go_at_call 14; refine calls_of_args (args' := #[.slice A37 (l0.drop (t194 : Int).toNat).length (c0 - t194.toNat)]) (by first | rfl | (rw [show (l0.drop (t194 : Int).toNat).length = (l0.length - t194.toNat) from List.length_drop] <;> rfl) | (rw [show (l0.drop (t194 : Int).toNat).length = (l0.length - t194.toNat) from List.length_drop])) ?_; (with_reducible refine (wire_Split.calls ad _ _ (l0.drop (t194 : Int).toNat) t208 t209 t210 _ ?side1 ?side2 af.out).mono ?_); (case side1 => repeat (first | exact (Kd.C_below ab.out HB.out) | (with_reducible refine Kd.C_alloc ?_ _) | (with_reducible refine Kd.C_drewN ?_ _) | (with_reducible refine Kd.C_drew ?_))); (case side2 => exact ac.out); rintro e w38 ⟨v211, rfl, ho0, hb⟩; have aa := Aside0.mk (Kd.S_lower ho0 (below_size (by repeat (first | (with_reducible first | exact HB.out | apply below_alloc | apply pw_below_drewN | apply below_drew1) | exact HB.out)))); replace HB := Aside0.mk (ke5ce.z HB.out hb rfl rfl rfl rfl); (try clear hb); (try clear ae); (try clear hk); (try clear hi); (try clear ho0); obtain ⟨Ao39, co39, eo39⟩ := Kd.S_slice aa.out; subst eo39) | (go_at_call 9; (with_reducible refine (whirligiglaw10_lives.calls ad  t213 _ A36.out).mono ?_); rintro e w40 ⟨rfl, hb⟩; replace aa := Aside0.mk (Kd.S_below (by (with_reducible repeat (first | apply Kd.S_alloc | apply Kd.S_drewN | apply Kd.S_drew)); exact aa.out) hb); replace HB := Aside0.mk (ke5ce.z HB.out hb rfl rfl rfl rfl); (try clear hb); (try clear ae); (try clear hk); (try clear hi))))
              go_ret
              exact ⟨by first | rfl | (simp [errW_none, errW_some] <;> rfl) | (simp [*, errW_none, errW_some] <;> rfl), by repeat (first | (with_reducible first | exact HB.out | apply below_alloc | apply pw_below_drewN | apply below_drew1) | exact HB.out)⟩
             ·rw [if_neg c35] at H
              have c35b0 : (t195 == 0) = false := beq_eq_false_iff_ne.mpr c35
              have c35b1 : (t195 != 0) = true := bne_iff_ne.mpr c35
              by_cases c41 : t195 = 4
              ·rw [if_pos c41] at H
               have c41b0 : (t195 == 4) = true := beq_iff_eq.mpr c41
               have c41b1 : (t195 != 4) = false := bne_eq_false_iff_eq.mpr c41
               clear c41
               by_cases c42 : (wrap64 ((l0.length : Int) - t194)) ≥ 19
               ·rw [if_pos c42] at H
                have c42b0 : decide (19 ≤ (wrap64 ((l0.length : Int) - t194))) = true := decide_eq_true c42
                clear c42
                replace H := Option.bind_eq_some_iff.mp H
                obtain ⟨t214, A430, H⟩ := H
                replace H : (some t214) = some r := H
                have A43 := Aside0.mk A430
                clear A430
                obtain rfl := Option.some.inj H
                obtain ⟨i044, hi044, _, hsz44, _⟩ := info_parts info5
                obtain ⟨A44, hcut44, hA44, hC44⟩ := print_drop_of (P := Try.prog) (Value.int .u8) 0 22 5 .i64 Try.underlying22 hi044 hsz44 A0 c0 l0 t194 (of_decide_eq_true (by first | (with_reducible assumption) | assumption)) (of_decide_eq_true (by first | (with_reducible assumption) | assumption)) ah.out
                have ab := Aside0.mk (Kd.C_of_reads (h1 := fun _ => rfl) (hA44 _ (Kd.reads_of_C ag.out)))
                have ac := Aside0.mk hC44
                clear hA44 hC44 hi044 hsz44
                go_wp2_with (first | (go_at_call 14; refine calls_of_args (args' := #[.slice A44 (l0.drop (t194 : Int).toNat).length (c0 - t194.toNat)]) (by first | rfl | (rw [show (l0.drop (t194 : Int).toNat).length = (l0.length - t194.toNat) from List.length_drop] <;> rfl) | (rw [show (l0.drop (t194 : Int).toNat).length = (l0.length - t194.toNat) from List.length_drop])) ?_; (with_reducible refine (wire_Split.calls ad _ _ (l0.drop (t194 : Int).toNat) t208 t209 t210 _ ?side1 ?side2 af.out).mono ?_); (case side1 => repeat (first | exact (Kd.C_below ab.out HB.out) | (with_reducible refine Kd.C_alloc ?_ _) | (with_reducible refine Kd.C_drewN ?_ _) | (with_reducible refine Kd.C_drew ?_))); (case side2 => exact ac.out); rintro e w45 ⟨v211, rfl, ho0, hb⟩; have aa := Aside0.mk (Kd.S_lower ho0 (below_size (by repeat (first | (with_reducible first | exact HB.out | apply below_alloc | apply pw_below_drewN | apply below_drew1) | exact HB.out)))); replace HB := Aside0.mk (ke5ce.z HB.out hb rfl rfl rfl rfl); (try clear hb); (try clear ae); (try clear hk); (try clear hi); (try clear ho0); obtain ⟨Ao46, co46, eo46⟩ := Kd.S_slice aa.out; subst eo46) | (go_at_call 9; (with_reducible refine (whirligiglaw10_lives.calls ad  t214 _ A43.out).mono ?_); rintro e w47 ⟨rfl, hb⟩; replace aa := Aside0.mk (Kd.S_below (by (with_reducible repeat (first | apply Kd.S_alloc | apply Kd.S_drewN | apply Kd.S_drew)); exact aa.out) hb); replace HB := Aside0.mk (ke5ce.z HB.out hb rfl rfl rfl rfl); (try clear hb); (try clear ae); (try clear hk); (try clear hi)))
                repeat (go_quiet (first | (go_at_call 14; refine calls_of_args (args' := #[.slice A44 (l0.drop (t194 : Int).toNat).length (c0 - t194.toNat)]) (by first | rfl | (rw [show (l0.drop (t194 : Int).toNat).length = (l0.length - t194.toNat) from List.length_drop] <;> rfl) | (rw [show (l0.drop (t194 : Int).toNat).length = (l0.length - t194.toNat) from List.length_drop])) ?_; (with_reducible refine (wire_Split.calls ad _ _ (l0.drop (t194 : Int).toNat) t208 t209 t210 _ ?side1 ?side2 af.out).mono ?_); (case side1 => repeat (first | exact (Kd.C_below ab.out HB.out) | (with_reducible refine Kd.C_alloc ?_ _) | (with_reducible refine Kd.C_drewN ?_ _) | (with_reducible refine Kd.C_drew ?_))); (case side2 => exact ac.out); rintro e w45 ⟨v211, rfl, ho0, hb⟩; have aa := Aside0.mk (Kd.S_lower ho0 (below_size (by repeat (first | (with_reducible first | exact HB.out | apply below_alloc | apply pw_below_drewN | apply below_drew1) | exact HB.out)))); replace HB := Aside0.mk (ke5ce.z HB.out hb rfl rfl rfl rfl); (try clear hb); (try clear ae); (try clear hk); (try clear hi); (try clear ho0); obtain ⟨Ao46, co46, eo46⟩ := Kd.S_slice aa.out; subst eo46) | (go_at_call 9; (with_reducible refine (whirligiglaw10_lives.calls ad  t214 _ A43.out).mono ?_); rintro e w47 ⟨rfl, hb⟩; replace aa := Aside0.mk (Kd.S_below (by (with_reducible repeat (first | apply Kd.S_alloc | apply Kd.S_drewN | apply Kd.S_drew)); exact aa.out) hb); replace HB := Aside0.mk (ke5ce.z HB.out hb rfl rfl rfl rfl); (try clear hb); (try clear ae); (try clear hk); (try clear hi))); try go_wp2_with (first | (go_at_call 14; refine calls_of_args (args' := #[.slice A44 (l0.drop (t194 : Int).toNat).length (c0 - t194.toNat)]) (by first | rfl | (rw [show (l0.drop (t194 : Int).toNat).length = (l0.length - t194.toNat) from List.length_drop] <;> rfl) | (rw [show (l0.drop (t194 : Int).toNat).length = (l0.length - t194.toNat) from List.length_drop])) ?_; (with_reducible refine (wire_Split.calls ad _ _ (l0.drop (t194 : Int).toNat) t208 t209 t210 _ ?side1 ?side2 af.out).mono ?_); (case side1 => repeat (first | exact (Kd.C_below ab.out HB.out) | (with_reducible refine Kd.C_alloc ?_ _) | (with_reducible refine Kd.C_drewN ?_ _) | (with_reducible refine Kd.C_drew ?_))); (case side2 => exact ac.out); rintro e w45 ⟨v211, rfl, ho0, hb⟩; have aa := Aside0.mk (Kd.S_lower ho0 (below_size (by repeat (first | (with_reducible first | exact HB.out | apply below_alloc | apply pw_below_drewN | apply below_drew1) | exact HB.out)))); replace HB := Aside0.mk (ke5ce.z HB.out hb rfl rfl rfl rfl); (try clear hb); (try clear ae); (try clear hk); (try clear hi); (try clear ho0); obtain ⟨Ao46, co46, eo46⟩ := Kd.S_slice aa.out; subst eo46) | (go_at_call 9; (with_reducible refine (whirligiglaw10_lives.calls ad  t214 _ A43.out).mono ?_); rintro e w47 ⟨rfl, hb⟩; replace aa := Aside0.mk (Kd.S_below (by (with_reducible repeat (first | apply Kd.S_alloc | apply Kd.S_drewN | apply Kd.S_drew)); exact aa.out) hb); replace HB := Aside0.mk (ke5ce.z HB.out hb rfl rfl rfl rfl); (try clear hb); (try clear ae); (try clear hk); (try clear hi))))
                go_ret
                exact ⟨by first | rfl | (simp [errW_none, errW_some] <;> rfl) | (simp [*, errW_none, errW_some] <;> rfl), by repeat (first | (with_reducible first | exact HB.out | apply below_alloc | apply pw_below_drewN | apply below_drew1) | exact HB.out)⟩
               ·rw [if_neg c42] at H
                have c42b0 : decide (19 ≤ (wrap64 ((l0.length : Int) - t194))) = false := decide_eq_false c42
                clear c42
                obtain rfl := Option.some.inj H
                obtain ⟨i048, hi048, _, hsz48, _⟩ := info_parts info5
                obtain ⟨A48, hcut48, hA48, hC48⟩ := print_drop_of (P := Try.prog) (Value.int .u8) 0 22 5 .i64 Try.underlying22 hi048 hsz48 A0 c0 l0 t194 (of_decide_eq_true (by first | (with_reducible assumption) | assumption)) (of_decide_eq_true (by first | (with_reducible assumption) | assumption)) ah.out
                have ab := Aside0.mk (Kd.C_of_reads (h1 := fun _ => rfl) (hA48 _ (Kd.reads_of_C ag.out)))
                have ac := Aside0.mk hC48
                clear hA48 hC48 hi048 hsz48
                go_wp2_with (first | (go_at_call 14; refine calls_of_args (args' := #[.slice A48 (l0.drop (t194 : Int).toNat).length (c0 - t194.toNat)]) (by first | rfl | (rw [show (l0.drop (t194 : Int).toNat).length = (l0.length - t194.toNat) from List.length_drop] <;> rfl) | (rw [show (l0.drop (t194 : Int).toNat).length = (l0.length - t194.toNat) from List.length_drop])) ?_; (with_reducible refine (wire_Split.calls ad _ _ (l0.drop (t194 : Int).toNat) t208 t209 t210 _ ?side1 ?side2 af.out).mono ?_); (case side1 => repeat (first | exact (Kd.C_below ab.out HB.out) | (with_reducible refine Kd.C_alloc ?_ _) | (with_reducible refine Kd.C_drewN ?_ _) | (with_reducible refine Kd.C_drew ?_))); (case side2 => exact ac.out); rintro e w49 ⟨v211, rfl, ho0, hb⟩; have aa := Aside0.mk (Kd.S_lower ho0 (below_size (by repeat (first | (with_reducible first | exact HB.out | apply below_alloc | apply pw_below_drewN | apply below_drew1) | exact HB.out)))); replace HB := Aside0.mk (ke5ce.z HB.out hb rfl rfl rfl rfl); (try clear hb); (try clear ae); (try clear hk); (try clear hi); (try clear ho0); obtain ⟨Ao50, co50, eo50⟩ := Kd.S_slice aa.out; subst eo50))
                repeat (go_quiet (first | (go_at_call 14; refine calls_of_args (args' := #[.slice A48 (l0.drop (t194 : Int).toNat).length (c0 - t194.toNat)]) (by first | rfl | (rw [show (l0.drop (t194 : Int).toNat).length = (l0.length - t194.toNat) from List.length_drop] <;> rfl) | (rw [show (l0.drop (t194 : Int).toNat).length = (l0.length - t194.toNat) from List.length_drop])) ?_; (with_reducible refine (wire_Split.calls ad _ _ (l0.drop (t194 : Int).toNat) t208 t209 t210 _ ?side1 ?side2 af.out).mono ?_); (case side1 => repeat (first | exact (Kd.C_below ab.out HB.out) | (with_reducible refine Kd.C_alloc ?_ _) | (with_reducible refine Kd.C_drewN ?_ _) | (with_reducible refine Kd.C_drew ?_))); (case side2 => exact ac.out); rintro e w49 ⟨v211, rfl, ho0, hb⟩; have aa := Aside0.mk (Kd.S_lower ho0 (below_size (by repeat (first | (with_reducible first | exact HB.out | apply below_alloc | apply pw_below_drewN | apply below_drew1) | exact HB.out)))); replace HB := Aside0.mk (ke5ce.z HB.out hb rfl rfl rfl rfl); (try clear hb); (try clear ae); (try clear hk); (try clear hi); (try clear ho0); obtain ⟨Ao50, co50, eo50⟩ := Kd.S_slice aa.out; subst eo50)); try go_wp2_with (first | (go_at_call 14; refine calls_of_args (args' := #[.slice A48 (l0.drop (t194 : Int).toNat).length (c0 - t194.toNat)]) (by first | rfl | (rw [show (l0.drop (t194 : Int).toNat).length = (l0.length - t194.toNat) from List.length_drop] <;> rfl) | (rw [show (l0.drop (t194 : Int).toNat).length = (l0.length - t194.toNat) from List.length_drop])) ?_; (with_reducible refine (wire_Split.calls ad _ _ (l0.drop (t194 : Int).toNat) t208 t209 t210 _ ?side1 ?side2 af.out).mono ?_); (case side1 => repeat (first | exact (Kd.C_below ab.out HB.out) | (with_reducible refine Kd.C_alloc ?_ _) | (with_reducible refine Kd.C_drewN ?_ _) | (with_reducible refine Kd.C_drew ?_))); (case side2 => exact ac.out); rintro e w49 ⟨v211, rfl, ho0, hb⟩; have aa := Aside0.mk (Kd.S_lower ho0 (below_size (by repeat (first | (with_reducible first | exact HB.out | apply below_alloc | apply pw_below_drewN | apply below_drew1) | exact HB.out)))); replace HB := Aside0.mk (ke5ce.z HB.out hb rfl rfl rfl rfl); (try clear hb); (try clear ae); (try clear hk); (try clear hi); (try clear ho0); obtain ⟨Ao50, co50, eo50⟩ := Kd.S_slice aa.out; subst eo50)))
                go_ret
                exact ⟨by first | rfl | (simp [errW_none, errW_some] <;> rfl) | (simp [*, errW_none, errW_some] <;> rfl), by repeat (first | (with_reducible first | exact HB.out | apply below_alloc | apply pw_below_drewN | apply below_drew1) | exact HB.out)⟩
              ·rw [if_neg c41] at H
               have c41b0 : (t195 == 4) = false := beq_eq_false_iff_ne.mpr c41
               have c41b1 : (t195 != 4) = true := bne_iff_ne.mpr c41
               obtain rfl := Option.some.inj H
               obtain ⟨i051, hi051, _, hsz51, _⟩ := info_parts info5
               obtain ⟨A51, hcut51, hA51, hC51⟩ := print_drop_of (P := Try.prog) (Value.int .u8) 0 22 5 .i64 Try.underlying22 hi051 hsz51 A0 c0 l0 t194 (of_decide_eq_true (by first | (with_reducible assumption) | assumption)) (of_decide_eq_true (by first | (with_reducible assumption) | assumption)) ah.out
               have ab := Aside0.mk (Kd.C_of_reads (h1 := fun _ => rfl) (hA51 _ (Kd.reads_of_C ag.out)))
               have ac := Aside0.mk hC51
               clear hA51 hC51 hi051 hsz51
               go_wp2_with (first | (go_at_call 14; refine calls_of_args (args' := #[.slice A51 (l0.drop (t194 : Int).toNat).length (c0 - t194.toNat)]) (by first | rfl | (rw [show (l0.drop (t194 : Int).toNat).length = (l0.length - t194.toNat) from List.length_drop] <;> rfl) | (rw [show (l0.drop (t194 : Int).toNat).length = (l0.length - t194.toNat) from List.length_drop])) ?_; (with_reducible refine (wire_Split.calls ad _ _ (l0.drop (t194 : Int).toNat) t208 t209 t210 _ ?side1 ?side2 af.out).mono ?_); (case side1 => repeat (first | exact (Kd.C_below ab.out HB.out) | (with_reducible refine Kd.C_alloc ?_ _) | (with_reducible refine Kd.C_drewN ?_ _) | (with_reducible refine Kd.C_drew ?_))); (case side2 => exact ac.out); rintro e w52 ⟨v211, rfl, ho0, hb⟩; have aa := Aside0.mk (Kd.S_lower ho0 (below_size (by repeat (first | (with_reducible first | exact HB.out | apply below_alloc | apply pw_below_drewN | apply below_drew1) | exact HB.out)))); replace HB := Aside0.mk (ke5ce.z HB.out hb rfl rfl rfl rfl); (try clear hb); (try clear ae); (try clear hk); (try clear hi); (try clear ho0); obtain ⟨Ao53, co53, eo53⟩ := Kd.S_slice aa.out; subst eo53))
               repeat (go_quiet (first | (go_at_call 14; refine calls_of_args (args' := #[.slice A51 (l0.drop (t194 : Int).toNat).length (c0 - t194.toNat)]) (by first | rfl | (rw [show (l0.drop (t194 : Int).toNat).length = (l0.length - t194.toNat) from List.length_drop] <;> rfl) | (rw [show (l0.drop (t194 : Int).toNat).length = (l0.length - t194.toNat) from List.length_drop])) ?_; (with_reducible refine (wire_Split.calls ad _ _ (l0.drop (t194 : Int).toNat) t208 t209 t210 _ ?side1 ?side2 af.out).mono ?_); (case side1 => repeat (first | exact (Kd.C_below ab.out HB.out) | (with_reducible refine Kd.C_alloc ?_ _) | (with_reducible refine Kd.C_drewN ?_ _) | (with_reducible refine Kd.C_drew ?_))); (case side2 => exact ac.out); rintro e w52 ⟨v211, rfl, ho0, hb⟩; have aa := Aside0.mk (Kd.S_lower ho0 (below_size (by repeat (first | (with_reducible first | exact HB.out | apply below_alloc | apply pw_below_drewN | apply below_drew1) | exact HB.out)))); replace HB := Aside0.mk (ke5ce.z HB.out hb rfl rfl rfl rfl); (try clear hb); (try clear ae); (try clear hk); (try clear hi); (try clear ho0); obtain ⟨Ao53, co53, eo53⟩ := Kd.S_slice aa.out; subst eo53)); try go_wp2_with (first | (go_at_call 14; refine calls_of_args (args' := #[.slice A51 (l0.drop (t194 : Int).toNat).length (c0 - t194.toNat)]) (by first | rfl | (rw [show (l0.drop (t194 : Int).toNat).length = (l0.length - t194.toNat) from List.length_drop] <;> rfl) | (rw [show (l0.drop (t194 : Int).toNat).length = (l0.length - t194.toNat) from List.length_drop])) ?_; (with_reducible refine (wire_Split.calls ad _ _ (l0.drop (t194 : Int).toNat) t208 t209 t210 _ ?side1 ?side2 af.out).mono ?_); (case side1 => repeat (first | exact (Kd.C_below ab.out HB.out) | (with_reducible refine Kd.C_alloc ?_ _) | (with_reducible refine Kd.C_drewN ?_ _) | (with_reducible refine Kd.C_drew ?_))); (case side2 => exact ac.out); rintro e w52 ⟨v211, rfl, ho0, hb⟩; have aa := Aside0.mk (Kd.S_lower ho0 (below_size (by repeat (first | (with_reducible first | exact HB.out | apply below_alloc | apply pw_below_drewN | apply below_drew1) | exact HB.out)))); replace HB := Aside0.mk (ke5ce.z HB.out hb rfl rfl rfl rfl); (try clear hb); (try clear ae); (try clear hk); (try clear hi); (try clear ho0); obtain ⟨Ao53, co53, eo53⟩ := Kd.S_slice aa.out; subst eo53)))
               go_ret
               exact ⟨by first | rfl | (simp [errW_none, errW_some] <;> rfl) | (simp [*, errW_none, errW_some] <;> rfl), by repeat (first | (with_reducible first | exact HB.out | apply below_alloc | apply pw_below_drewN | apply below_drew1) | exact HB.out)⟩
            ·rw [if_neg c34] at H
             have c34b0 : (t210 == t195) = false := beq_eq_false_iff_ne.mpr c34
             have c34b1 : (t210 != t195) = true := bne_iff_ne.mpr c34
             obtain rfl := Option.some.inj H
             obtain ⟨i054, hi054, _, hsz54, _⟩ := info_parts info5
             obtain ⟨A54, hcut54, hA54, hC54⟩ := print_drop_of (P := Try.prog) (Value.int .u8) 0 22 5 .i64 Try.underlying22 hi054 hsz54 A0 c0 l0 t194 (of_decide_eq_true (by first | (with_reducible assumption) | assumption)) (of_decide_eq_true (by first | (with_reducible assumption) | assumption)) ah.out
             have ab := Aside0.mk (Kd.C_of_reads (h1 := fun _ => rfl) (hA54 _ (Kd.reads_of_C ag.out)))
             have ac := Aside0.mk hC54
             clear hA54 hC54 hi054 hsz54
             go_wp2_with (first | (go_at_call 14; refine calls_of_args (args' := #[.slice A54 (l0.drop (t194 : Int).toNat).length (c0 - t194.toNat)]) (by first | rfl | (rw [show (l0.drop (t194 : Int).toNat).length = (l0.length - t194.toNat) from List.length_drop] <;> rfl) | (rw [show (l0.drop (t194 : Int).toNat).length = (l0.length - t194.toNat) from List.length_drop])) ?_; (with_reducible refine (wire_Split.calls ad _ _ (l0.drop (t194 : Int).toNat) t208 t209 t210 _ ?side1 ?side2 af.out).mono ?_); (case side1 => repeat (first | exact (Kd.C_below ab.out HB.out) | (with_reducible refine Kd.C_alloc ?_ _) | (with_reducible refine Kd.C_drewN ?_ _) | (with_reducible refine Kd.C_drew ?_))); (case side2 => exact ac.out); rintro e w55 ⟨v211, rfl, ho0, hb⟩; have aa := Aside0.mk (Kd.S_lower ho0 (below_size (by repeat (first | (with_reducible first | exact HB.out | apply below_alloc | apply pw_below_drewN | apply below_drew1) | exact HB.out)))); replace HB := Aside0.mk (ke5ce.z HB.out hb rfl rfl rfl rfl); (try clear hb); (try clear ae); (try clear hk); (try clear hi); (try clear ho0); obtain ⟨Ao56, co56, eo56⟩ := Kd.S_slice aa.out; subst eo56))
             repeat (go_quiet (first | (go_at_call 14; refine calls_of_args (args' := #[.slice A54 (l0.drop (t194 : Int).toNat).length (c0 - t194.toNat)]) (by first | rfl | (rw [show (l0.drop (t194 : Int).toNat).length = (l0.length - t194.toNat) from List.length_drop] <;> rfl) | (rw [show (l0.drop (t194 : Int).toNat).length = (l0.length - t194.toNat) from List.length_drop])) ?_; (with_reducible refine (wire_Split.calls ad _ _ (l0.drop (t194 : Int).toNat) t208 t209 t210 _ ?side1 ?side2 af.out).mono ?_); (case side1 => repeat (first | exact (Kd.C_below ab.out HB.out) | (with_reducible refine Kd.C_alloc ?_ _) | (with_reducible refine Kd.C_drewN ?_ _) | (with_reducible refine Kd.C_drew ?_))); (case side2 => exact ac.out); rintro e w55 ⟨v211, rfl, ho0, hb⟩; have aa := Aside0.mk (Kd.S_lower ho0 (below_size (by repeat (first | (with_reducible first | exact HB.out | apply below_alloc | apply pw_below_drewN | apply below_drew1) | exact HB.out)))); replace HB := Aside0.mk (ke5ce.z HB.out hb rfl rfl rfl rfl); (try clear hb); (try clear ae); (try clear hk); (try clear hi); (try clear ho0); obtain ⟨Ao56, co56, eo56⟩ := Kd.S_slice aa.out; subst eo56)); try go_wp2_with (first | (go_at_call 14; refine calls_of_args (args' := #[.slice A54 (l0.drop (t194 : Int).toNat).length (c0 - t194.toNat)]) (by first | rfl | (rw [show (l0.drop (t194 : Int).toNat).length = (l0.length - t194.toNat) from List.length_drop] <;> rfl) | (rw [show (l0.drop (t194 : Int).toNat).length = (l0.length - t194.toNat) from List.length_drop])) ?_; (with_reducible refine (wire_Split.calls ad _ _ (l0.drop (t194 : Int).toNat) t208 t209 t210 _ ?side1 ?side2 af.out).mono ?_); (case side1 => repeat (first | exact (Kd.C_below ab.out HB.out) | (with_reducible refine Kd.C_alloc ?_ _) | (with_reducible refine Kd.C_drewN ?_ _) | (with_reducible refine Kd.C_drew ?_))); (case side2 => exact ac.out); rintro e w55 ⟨v211, rfl, ho0, hb⟩; have aa := Aside0.mk (Kd.S_lower ho0 (below_size (by repeat (first | (with_reducible first | exact HB.out | apply below_alloc | apply pw_below_drewN | apply below_drew1) | exact HB.out)))); replace HB := Aside0.mk (ke5ce.z HB.out hb rfl rfl rfl rfl); (try clear hb); (try clear ae); (try clear hk); (try clear hi); (try clear ho0); obtain ⟨Ao56, co56, eo56⟩ := Kd.S_slice aa.out; subst eo56)))
             go_ret
             exact ⟨by first | rfl | (simp [errW_none, errW_some] <;> rfl) | (simp [*, errW_none, errW_some] <;> rfl), by repeat (first | (with_reducible first | exact HB.out | apply below_alloc | apply pw_below_drewN | apply below_drew1) | exact HB.out)⟩
           ·rw [if_neg c33] at H
            have c33b0 : (t209 == 0) = false := beq_eq_false_iff_ne.mpr c33
            have c33b1 : (t209 != 0) = true := bne_iff_ne.mpr c33
            obtain rfl := Option.some.inj H
            obtain ⟨i057, hi057, _, hsz57, _⟩ := info_parts info5
            obtain ⟨A57, hcut57, hA57, hC57⟩ := print_drop_of (P := Try.prog) (Value.int .u8) 0 22 5 .i64 Try.underlying22 hi057 hsz57 A0 c0 l0 t194 (of_decide_eq_true (by first | (with_reducible assumption) | assumption)) (of_decide_eq_true (by first | (with_reducible assumption) | assumption)) ah.out
            have ab := Aside0.mk (Kd.C_of_reads (h1 := fun _ => rfl) (hA57 _ (Kd.reads_of_C ag.out)))
            have ac := Aside0.mk hC57
            clear hA57 hC57 hi057 hsz57
            go_wp2_with (first | (go_at_call 14; refine calls_of_args (args' := #[.slice A57 (l0.drop (t194 : Int).toNat).length (c0 - t194.toNat)]) (by first | rfl | (rw [show (l0.drop (t194 : Int).toNat).length = (l0.length - t194.toNat) from List.length_drop] <;> rfl) | (rw [show (l0.drop (t194 : Int).toNat).length = (l0.length - t194.toNat) from List.length_drop])) ?_; (with_reducible refine (wire_Split.calls ad _ _ (l0.drop (t194 : Int).toNat) t208 t209 t210 _ ?side1 ?side2 af.out).mono ?_); (case side1 => repeat (first | exact (Kd.C_below ab.out HB.out) | (with_reducible refine Kd.C_alloc ?_ _) | (with_reducible refine Kd.C_drewN ?_ _) | (with_reducible refine Kd.C_drew ?_))); (case side2 => exact ac.out); rintro e w58 ⟨v211, rfl, ho0, hb⟩; have aa := Aside0.mk (Kd.S_lower ho0 (below_size (by repeat (first | (with_reducible first | exact HB.out | apply below_alloc | apply pw_below_drewN | apply below_drew1) | exact HB.out)))); replace HB := Aside0.mk (ke5ce.z HB.out hb rfl rfl rfl rfl); (try clear hb); (try clear ae); (try clear hk); (try clear hi); (try clear ho0); obtain ⟨Ao59, co59, eo59⟩ := Kd.S_slice aa.out; subst eo59))
            repeat (go_quiet (first | (go_at_call 14; refine calls_of_args (args' := #[.slice A57 (l0.drop (t194 : Int).toNat).length (c0 - t194.toNat)]) (by first | rfl | (rw [show (l0.drop (t194 : Int).toNat).length = (l0.length - t194.toNat) from List.length_drop] <;> rfl) | (rw [show (l0.drop (t194 : Int).toNat).length = (l0.length - t194.toNat) from List.length_drop])) ?_; (with_reducible refine (wire_Split.calls ad _ _ (l0.drop (t194 : Int).toNat) t208 t209 t210 _ ?side1 ?side2 af.out).mono ?_); (case side1 => repeat (first | exact (Kd.C_below ab.out HB.out) | (with_reducible refine Kd.C_alloc ?_ _) | (with_reducible refine Kd.C_drewN ?_ _) | (with_reducible refine Kd.C_drew ?_))); (case side2 => exact ac.out); rintro e w58 ⟨v211, rfl, ho0, hb⟩; have aa := Aside0.mk (Kd.S_lower ho0 (below_size (by repeat (first | (with_reducible first | exact HB.out | apply below_alloc | apply pw_below_drewN | apply below_drew1) | exact HB.out)))); replace HB := Aside0.mk (ke5ce.z HB.out hb rfl rfl rfl rfl); (try clear hb); (try clear ae); (try clear hk); (try clear hi); (try clear ho0); obtain ⟨Ao59, co59, eo59⟩ := Kd.S_slice aa.out; subst eo59)); try go_wp2_with (first | (go_at_call 14; refine calls_of_args (args' := #[.slice A57 (l0.drop (t194 : Int).toNat).length (c0 - t194.toNat)]) (by first | rfl | (rw [show (l0.drop (t194 : Int).toNat).length = (l0.length - t194.toNat) from List.length_drop] <;> rfl) | (rw [show (l0.drop (t194 : Int).toNat).length = (l0.length - t194.toNat) from List.length_drop])) ?_; (with_reducible refine (wire_Split.calls ad _ _ (l0.drop (t194 : Int).toNat) t208 t209 t210 _ ?side1 ?side2 af.out).mono ?_); (case side1 => repeat (first | exact (Kd.C_below ab.out HB.out) | (with_reducible refine Kd.C_alloc ?_ _) | (with_reducible refine Kd.C_drewN ?_ _) | (with_reducible refine Kd.C_drew ?_))); (case side2 => exact ac.out); rintro e w58 ⟨v211, rfl, ho0, hb⟩; have aa := Aside0.mk (Kd.S_lower ho0 (below_size (by repeat (first | (with_reducible first | exact HB.out | apply below_alloc | apply pw_below_drewN | apply below_drew1) | exact HB.out)))); replace HB := Aside0.mk (ke5ce.z HB.out hb rfl rfl rfl rfl); (try clear hb); (try clear ae); (try clear hk); (try clear hi); (try clear ho0); obtain ⟨Ao59, co59, eo59⟩ := Kd.S_slice aa.out; subst eo59)))
            go_ret
            exact ⟨by first | rfl | (simp [errW_none, errW_some] <;> rfl) | (simp [*, errW_none, errW_some] <;> rfl), by repeat (first | (with_reducible first | exact HB.out | apply below_alloc | apply pw_below_drewN | apply below_drew1) | exact HB.out)⟩
          ·rw [if_neg ak] at H
           have c32b0 : ((t208.length : Int) == 0) = false := beq_eq_false_iff_ne.mpr ak
           have c32b1 : ((t208.length : Int) != 0) = true := bne_iff_ne.mpr ak
           have c32b2 : ¬ (t208 = []) := fun h_ => ak (by rw [h_]; rfl)
           obtain rfl := Option.some.inj H
           obtain ⟨i060, hi060, _, hsz60, _⟩ := info_parts info5
           obtain ⟨A60, hcut60, hA60, hC60⟩ := print_drop_of (P := Try.prog) (Value.int .u8) 0 22 5 .i64 Try.underlying22 hi060 hsz60 A0 c0 l0 t194 (of_decide_eq_true (by first | (with_reducible assumption) | assumption)) (of_decide_eq_true (by first | (with_reducible assumption) | assumption)) ah.out
           have ab := Aside0.mk (Kd.C_of_reads (h1 := fun _ => rfl) (hA60 _ (Kd.reads_of_C ag.out)))
           have ac := Aside0.mk hC60
           clear hA60 hC60 hi060 hsz60
           go_wp2_with (first | (go_at_call 14; refine calls_of_args (args' := #[.slice A60 (l0.drop (t194 : Int).toNat).length (c0 - t194.toNat)]) (by first | rfl | (rw [show (l0.drop (t194 : Int).toNat).length = (l0.length - t194.toNat) from List.length_drop] <;> rfl) | (rw [show (l0.drop (t194 : Int).toNat).length = (l0.length - t194.toNat) from List.length_drop])) ?_; (with_reducible refine (wire_Split.calls ad _ _ (l0.drop (t194 : Int).toNat) t208 t209 t210 _ ?side1 ?side2 af.out).mono ?_); (case side1 => repeat (first | exact (Kd.C_below ab.out HB.out) | (with_reducible refine Kd.C_alloc ?_ _) | (with_reducible refine Kd.C_drewN ?_ _) | (with_reducible refine Kd.C_drew ?_))); (case side2 => exact ac.out); rintro e w61 ⟨v211, rfl, ho0, hb⟩; have aa := Aside0.mk (Kd.S_lower ho0 (below_size (by repeat (first | (with_reducible first | exact HB.out | apply below_alloc | apply pw_below_drewN | apply below_drew1) | exact HB.out)))); replace HB := Aside0.mk (ke5ce.z HB.out hb rfl rfl rfl rfl); (try clear hb); (try clear ae); (try clear hk); (try clear hi); (try clear ho0); obtain ⟨Ao62, co62, eo62⟩ := Kd.S_slice aa.out; subst eo62))
           repeat (go_quiet (first | (go_at_call 14; refine calls_of_args (args' := #[.slice A60 (l0.drop (t194 : Int).toNat).length (c0 - t194.toNat)]) (by first | rfl | (rw [show (l0.drop (t194 : Int).toNat).length = (l0.length - t194.toNat) from List.length_drop] <;> rfl) | (rw [show (l0.drop (t194 : Int).toNat).length = (l0.length - t194.toNat) from List.length_drop])) ?_; (with_reducible refine (wire_Split.calls ad _ _ (l0.drop (t194 : Int).toNat) t208 t209 t210 _ ?side1 ?side2 af.out).mono ?_); (case side1 => repeat (first | exact (Kd.C_below ab.out HB.out) | (with_reducible refine Kd.C_alloc ?_ _) | (with_reducible refine Kd.C_drewN ?_ _) | (with_reducible refine Kd.C_drew ?_))); (case side2 => exact ac.out); rintro e w61 ⟨v211, rfl, ho0, hb⟩; have aa := Aside0.mk (Kd.S_lower ho0 (below_size (by repeat (first | (with_reducible first | exact HB.out | apply below_alloc | apply pw_below_drewN | apply below_drew1) | exact HB.out)))); replace HB := Aside0.mk (ke5ce.z HB.out hb rfl rfl rfl rfl); (try clear hb); (try clear ae); (try clear hk); (try clear hi); (try clear ho0); obtain ⟨Ao62, co62, eo62⟩ := Kd.S_slice aa.out; subst eo62)); try go_wp2_with (first | (go_at_call 14; refine calls_of_args (args' := #[.slice A60 (l0.drop (t194 : Int).toNat).length (c0 - t194.toNat)]) (by first | rfl | (rw [show (l0.drop (t194 : Int).toNat).length = (l0.length - t194.toNat) from List.length_drop] <;> rfl) | (rw [show (l0.drop (t194 : Int).toNat).length = (l0.length - t194.toNat) from List.length_drop])) ?_; (with_reducible refine (wire_Split.calls ad _ _ (l0.drop (t194 : Int).toNat) t208 t209 t210 _ ?side1 ?side2 af.out).mono ?_); (case side1 => repeat (first | exact (Kd.C_below ab.out HB.out) | (with_reducible refine Kd.C_alloc ?_ _) | (with_reducible refine Kd.C_drewN ?_ _) | (with_reducible refine Kd.C_drew ?_))); (case side2 => exact ac.out); rintro e w61 ⟨v211, rfl, ho0, hb⟩; have aa := Aside0.mk (Kd.S_lower ho0 (below_size (by repeat (first | (with_reducible first | exact HB.out | apply below_alloc | apply pw_below_drewN | apply below_drew1) | exact HB.out)))); replace HB := Aside0.mk (ke5ce.z HB.out hb rfl rfl rfl rfl); (try clear hb); (try clear ae); (try clear hk); (try clear hi); (try clear ho0); obtain ⟨Ao62, co62, eo62⟩ := Kd.S_slice aa.out; subst eo62)))
           go_ret
           exact ⟨by first | rfl | (simp [errW_none, errW_some] <;> rfl) | (simp [*, errW_none, errW_some] <;> rfl), by repeat (first | (with_reducible first | exact HB.out | apply below_alloc | apply pw_below_drewN | apply below_drew1) | exact HB.out)⟩
         ·rw [if_neg c30] at H
          exact absurd H (by simp)
        ·rw [if_neg c29] at H
         exact absurd H (by simp)

end Go.Proofs.Ytjmpojfpbhihpaa.P

end
section
set_option linter.unusedVariables false
set_option linter.unusedSimpArgs false
namespace Go.Proofs.Ytjmpojfpbhihpaa
open Go.ChangeShapes Go.WideShapes Go.Proofs.YtjmpojfpbhihpaaW.PrintWords Go.Proofs.YtjmpojfpbhihpaaW.PrintLast Go.Proofs.YtjmpojfpbhihpaaW.PrintMore

/-- the ints of a kind -/
def okI (k : IntKind) (n : Int) : Prop := (Lit.int k n).wf = true
def okL {α : Type} (B : Nat) (ok : α → Prop) (l : List α) : Prop := l.length * B ≤ 140737488351232 ∧ ∀ x, x ∈ l → ok x
theorem okI_u8 {n : Int} (h : okI .u8 n) : 0 ≤ n ∧ n ≤ 255 := by
  unfold okI Lit.wf at h; simp [IntKind.min, IntKind.max, IntKind.bits, IntKind.signed] at h; omega

/-- A reading of a type. -/
structure RV (P : Program) (t : TypeId) (α : Type) (d : Kd α) where
  ok : α → Prop
  sz : P.cellsOf t = d.sz
  opens : ∀ {H : Type} {enc : TypeId × Value → H} {w : World} {base : Nat} {spare : Nat → Bool} {held : Bool} {fuel : Nat} {cs : List Value} {x : DataW H × List MemPlace},
    DataW.trod enc P w base spare held fuel t cs = some x → (x.1.weights P t).all (· ≤ reachBytes) = true → ∃ a, d.K w a cs ∧ ok a
section
variable {P : Program} {t e : TypeId} {α β : Type} {d : Kd α}
def rInt (k : IntKind) (ht : P.underlying t = some (.int k)) (hc : P.cellsOf t = 1) : RV P t Int (Kd.int k) where
  ok := okI k
  sz := hc
  opens := fun h _ => by obtain ⟨n, h1, _, h3⟩ := DataW.trod_int ht h; exact ⟨n, h1, h3⟩
theorem RV.list_of_lt {n : Nat} {p : Nat → α → Prop} (h : ∀ i, i < n → ∃ x, p i x) : ∃ l : List α, l.length = n ∧ ∀ i x, l[i]? = some x → p i x := by
  rcases Nat.eq_zero_or_pos n with rfl | hn
  · exact ⟨[], rfl, fun i x hx => by simp at hx⟩
  · haveI : Inhabited α := ⟨Classical.choose (h 0 hn)⟩
    obtain ⟨f, hf⟩ := Go.Deep.choose_lt h
    refine ⟨(List.range n).map f, by simp, fun i x hx => ?_⟩
    have hi : i < n := by have := (List.getElem?_eq_some_iff.1 hx).1; simpa using this
    have e : ((List.range n).map f)[i]? = some (f i) := by simp [hi]
    rw [e] at hx
    cases hx
    exact hf i hi
theorem add_add_ (a : Addr) (p q : Nat) : (a.add p).add q = a.add (p + q) := by
  unfold Addr.add
  by_cases hp : p = 0
  · subst hp; simp
  · by_cases hq : q = 0
    · subst hq; simp [hp]
    · have : p + q ≠ 0 := by omega
      simp [hp, hq, this, Nat.add_assoc]
theorem weights_elem {H : Type} {P : Program} {e : TypeId} {l : List (DataW H)} {B : Nat} (h : (DataW.weightsAll P e l).all (· ≤ B) = true) {x : DataW H} (hx : x ∈ l) : (x.weights P e).all (· ≤ B) = true := by
  induction l with
  | nil => simp at hx
  | cons y l ih =>
    rw [DataW.weightsAll, List.all_append, Bool.and_eq_true] at h
    rcases List.mem_cons.1 hx with rfl | hx
    · exact h.1
    · exact ih h.2 hx
def rSlice {B : Nat} (ht : P.underlying t = some (.slice e)) (hc : P.cellsOf t = 1) (hB : P.bytesOf e = B) (hp : 0 < d.sz) (hB1 : 1 ≤ B) (V : RV P e α d) : RV P t (List α) (Kd.slice e d) where
  ok := okL B V.ok
  sz := hc
  opens := fun {H enc w base spare held fuel cs x} h hw => by
    rcases Go.Deep.open_slice ht h with ⟨h0, _⟩ | ⟨a, len, cap, m, f, D, Pl, h1, hb, hl, hm, hmm, hx, hcc⟩
    · exact ⟨[], ⟨none, 0, h0, Nat.le_refl _, ⟨rfl, by simp, fun h => absurd h (by simp)⟩⟩, by simp [okL]⟩
    · have hlm : len ≤ m := by rw [hmm]; split <;> omega
      have hw' := hw
      rw [hx] at hw'
      simp only [DataW.weights, ht, List.all_cons, List.length_map, List.length_range, Bool.and_eq_true, List.all_append] at hw'
      obtain ⟨w1, w2, _⟩ := hw'
      have w1' : (len + (m - len)) * B ≤ 140737488351232 := by rw [← hB]; exact of_decide_eq_true w1
      have one : ∀ i, i < len → ∃ x, ∃ cs', cs'.length = d.sz ∧ (∀ j u, cs'[j]? = some u → w.cell? (a.add (i * d.sz + j)) = some u) ∧ d.K w x cs' ∧ V.ok x := by
        intro i hi
        obtain ⟨cs', k1, k2⟩ := hcc i (by omega)
        obtain ⟨_, hlen, hcell⟩ := World.cells?_some k1
        have hwi := weights_elem w2 (List.mem_map.2 ⟨i, List.mem_range.2 hi, rfl⟩)
        obtain ⟨y, hy, hok⟩ := V.opens k2 hwi
        rw [V.sz] at hlen hcell
        refine ⟨y, cs', hlen, fun j u hj => ?_, hy, hok⟩
        have hj' : j < d.sz := by have := (List.getElem?_eq_some_iff.1 hj).1; omega
        have := hcell j hj'
        rw [add_add_, hj] at this
        exact this
      obtain ⟨l, hl', hall⟩ := RV.list_of_lt one
      have hlb : len ≤ 9223372036854775807 := by
        have : len * 1 ≤ (len + (m - len)) * B := Nat.mul_le_mul (by omega) hB1
        omega
      refine ⟨l, ⟨some a, cap, by rw [h1, hl'], by omega, ⟨rfl, by omega, fun _ => ⟨a, rfl, fun j p hj => ?_⟩⟩⟩, ?_, ?_⟩
      · obtain ⟨cs', q1, q2, q3, _⟩ := hall j p hj
        exact ⟨cs', q1, q3, q2⟩
      · rw [hl']
        exact Nat.le_trans (Nat.mul_le_mul_right _ (by omega)) w1'
      · intro x hx
        obtain ⟨i, hi⟩ := List.getElem?_of_mem hx
        obtain ⟨_, _, _, _, q⟩ := hall i x hi
        exact q
end
end Go.Proofs.Ytjmpojfpbhihpaa

end
section
namespace Go.Proofs.Ytjmpojfpbhihpaa.P
open Go.Proofs.YtjmpojfpbhihpaaW.PrintWords Go.Proofs.YtjmpojfpbhihpaaW.PrintLast Go.Proofs.YtjmpojfpbhihpaaW.PrintMore
set_option linter.unusedVariables false
def r5 : RV Try.prog 5 Int (Kd.int .u8) := rInt .u8 Try.underlying5 (by kernel_rfl)
def r22 : RV Try.prog 22 (List (Int)) (Kd.slice 5 (Kd.int .u8)) := rSlice (B := 1) Try.underlying22 (by kernel_rfl) (by kernel_rfl) (by decide) (by decide) r5
def r3 : RV Try.prog 3 Int (Kd.int .i64) := rInt .i64 Try.underlying3 (by kernel_rfl)
end Go.Proofs.Ytjmpojfpbhihpaa.P

end
section
set_option linter.unusedVariables false
set_option linter.unusedSimpArgs false
namespace Go.Proofs.Ytjmpojfpbhihpaa
open Go.RowKit Go.Proofs.YtjmpojfpbhihpaaW.PrintWords Go.Proofs.YtjmpojfpbhihpaaW.PrintLast Go.Proofs.YtjmpojfpbhihpaaW.PrintMore

/-- with rounds enough, r comes out -/
def Evt {α : Type} (g : Nat → Option α) (r : α) : Prop := ∃ K, ∀ k, K ≤ k → g k = some r
theorem Evt.ex {α : Type} {g : Nat → Option α} {r : α} (h : Evt g r) : ∃ k, g k = some r := h.imp fun K hK => hK K (Nat.le_refl _)
theorem Evt.pure {α : Type} (r : α) : Evt (fun _ => some r) r := ⟨0, fun _ _ => rfl⟩
theorem Evt.bind {α β : Type} {g : Nat → Option α} {f : Nat → α → Option β} {a : α} {b : β} (h : Evt g a) (h2 : Evt (fun k => f k a) b) : Evt (fun k => (g k).bind (f k)) b := by
  obtain ⟨K, h⟩ := h
  obtain ⟨L, h2⟩ := h2
  exact ⟨max K L, fun k hk => by show (g k).bind (f k) = some b; rw [h k (by omega)]; exact h2 k (by omega)⟩
theorem Evt.bindc {α β : Type} {o : Option α} {f : Nat → α → Option β} {a : α} {b : β} (h : o = some a) (h2 : Evt (fun k => f k a) b) : Evt (fun k => o.bind (f k)) b := by
  subst h; exact h2
theorem Evt.step {α : Type} {g : Nat → Option α} {r : α} (h : Evt (fun k => g (k + 1)) r) : Evt g r := by
  obtain ⟨K, h⟩ := h
  refine ⟨K + 1, fun k hk => ?_⟩
  obtain ⟨k, rfl⟩ : ∃ m, k = m + 1 := ⟨k - 1, by omega⟩
  exact h k (by omega)
theorem Evt.ite_pos {α : Type} {c : Prop} [Decidable c] {x y : Nat → Option α} {r : α} (hc : c) (h : Evt x r) : Evt (fun k => if c then x k else y k) r := by
  simp only [if_pos hc]; exact h
theorem Evt.ite_neg {α : Type} {c : Prop} [Decidable c] {x y : Nat → Option α} {r : α} (hc : ¬ c) (h : Evt y r) : Evt (fun k => if c then x k else y k) r := by
  simp only [if_neg hc]; exact h
theorem Evt.of_mono {α : Type} {g : Nat → Option α} {r : α} {K : Nat} (hm : ∀ k, LeO (g k) (g (k + 1))) (h : g K = some r) : Evt g r := by
  refine ⟨K, fun k hk => ?_⟩
  obtain ⟨d, rfl⟩ : ∃ d, k = K + d := ⟨k - K, by omega⟩
  clear hk
  induction d with
  | zero => exact h
  | succ d ih => exact hm _ _ ih
theorem wrap64_in (x : Int) (h0 : -9223372036854775808 ≤ x) (h1 : x ≤ 9223372036854775807) : wrap64 x = x := by unfold wrap64; omega

end Go.Proofs.Ytjmpojfpbhihpaa

end
section
set_option linter.unusedVariables false
set_option linter.unusedSimpArgs false
namespace Go.Proofs.Ytjmpojfpbhihpaa.P
open Go.RowKit Go.Proofs.YtjmpojfpbhihpaaW.PrintWords Go.Proofs.YtjmpojfpbhihpaaW.PrintLast Go.Proofs.YtjmpojfpbhihpaaW.PrintMore

theorem lives_ev : Evt (fun k => whirligiglaw10_lives.f k) true := by
  refine Evt.of_mono (K := 12) (fun k => whirligiglaw10_lives.mono k) ?_
  decide +kernel
theorem son_app (a b : List Int) : strOfNums a ++ strOfNums b = strOfNums (a ++ b) := by
  unfold strOfNums
  rw [app_list, List.map_append]
/-- bytes -/
def U8 (B : List Int) : Prop := ∀ x, x ∈ B → 0 ≤ x ∧ x ≤ 255
theorem U8.drop {B : List Int} (h : U8 B) (n : Nat) : U8 (B.drop n) := fun x hx => h x (List.mem_of_mem_drop hx)
theorem U8.take {B : List Int} (h : U8 B) (n : Nat) : U8 (B.take n) := fun x hx => h x (List.mem_of_mem_take hx)
theorem U8.at {B : List Int} (h : U8 B) (i : Nat) : 0 ≤ B.getD i 0 ∧ B.getD i 0 ≤ 255 := by
  rw [List.getD_eq_getElem?_getD]
  cases hc : B[i]? with
  | none => exact ⟨by simp, by simp⟩
  | some x => exact h x (List.mem_of_getElem? hc)
def szD (D : List Int) : Int := D.getD 16 0 * 256 + D.getD 17 0
def cntD (D : List Int) : Int := ((Lib.countByte (Lib.bytesOf (D.take 16)) (255 : Int).toNat.toUInt8 : Nat) : Int)
def badD (D : List Int) : Bool := decide (cntD D < 16) || decide (szD D < 19) || decide (szD D > 4096) || decide (D.getD 18 0 < 1) || decide (D.getD 18 0 > 4)
theorem or64 (x y : Int) (hx : 0 ≤ x ∧ x ≤ 255) (hy : 0 ≤ y ∧ y ≤ 255) : Go.bits .or .i64 (wrap64 (wrap64 x * 256)) (wrap64 y) = x * 256 + y := by
  rw [wrap64_in x (by omega) (by omega), wrap64_in (x * 256) (by omega) (by omega), wrap64_in y (by omega) (by omega)]
  exact bits_join .i64 63 (by decide) (fun n h0 h1 => IntWalk.i64_in n (by omega)) 8 (x * 256) y (by omega) (by omega) (by omega) (by omega) (by omega) (by omega)
theorem rd_drop (B : List Int) (at_ j : Nat) : rd B ((at_ : Int) + (j : Int)) = (B.drop at_).getD j 0 := by
  unfold rd
  rw [show ((at_ : Int) + (j : Int)).toNat = at_ + j by omega, List.getD_eq_getElem?_getD, List.getD_eq_getElem?_getD, List.getElem?_drop]
theorem mid_drop (B : List Int) (at_ j : Nat) : (B.take (at_ + j)).drop at_ = (B.drop at_).take j := by
  rw [List.drop_take, show at_ + j - at_ = j by omega]
theorem sp_end (B : List Int) (hB : B.length ≤ 20000) (acc : List (List Int)) (at_ : Nat) (hle : at_ ≤ B.length) (h : (B.drop at_).length < 19) : Evt (fun k => wire_Split.l0 k B acc (at_ : Int)) (acc, (at_ : Int), 0) := by
  rw [List.length_drop] at h
  refine Evt.step ?_
  simp only [wire_Split.l0]
  rw [wrap64_in ((B.length : Int) - (at_ : Int)) (by omega) (by omega)]
  exact Evt.ite_neg (by omega) (Evt.pure _)
theorem sp_go (B : List Int) (hB : B.length ≤ 20000) (hu : U8 B) (acc : List (List Int)) (hacc : acc.length ≤ 100000) (at_ : Nat) (hle : at_ ≤ B.length) (h : 19 ≤ (B.drop at_).length) (R : List (List Int) × Int × Int)
    (h1 : badD (B.drop at_) = true → R = (acc, (at_ : Int), 4)) (h2 : badD (B.drop at_) = false → ((B.drop at_).length : Int) < szD (B.drop at_) → R = (acc, (at_ : Int), 0))
    (h3 : badD (B.drop at_) = false → szD (B.drop at_) ≤ ((B.drop at_).length : Int) → 19 ≤ szD (B.drop at_) → szD (B.drop at_) ≤ 4096 → Evt (fun k => wire_Split.l0 k B (acc ++ [(B.drop at_).take (szD (B.drop at_)).toNat]) ((at_ + (szD (B.drop at_)).toNat : Nat) : Int)) R) :
    Evt (fun k => wire_Split.l0 k B acc (at_ : Int)) R := by
  have hD : (B.drop at_).length = B.length - at_ := List.length_drop
  have hU := hu.drop at_
  have u16 := hU.at 16
  have u17 := hU.at 17
  have J : ∀ b : Bool, b = badD (B.drop at_) → Evt (fun k => wire_Split.j1 k B acc (at_ : Int) (szD (B.drop at_)) b) R := by
    intro b hb
    refine Evt.step ?_
    simp only [wire_Split.j1]
    cases b with
    | true => rw [h1 hb.symm]; exact Evt.ite_pos rfl (Evt.pure _)
    | false =>
      refine Evt.ite_neg (by simp) ?_
      have hb' : (decide (cntD (B.drop at_) < 16) || decide (szD (B.drop at_) < 19) || decide (szD (B.drop at_) > 4096) || decide ((B.drop at_).getD 18 0 < 1) || decide ((B.drop at_).getD 18 0 > 4)) = false := hb.symm
      simp only [Bool.or_eq_false_iff, decide_eq_false_iff_not] at hb'
      have s0 : 19 ≤ szD (B.drop at_) := by omega
      have s1 : szD (B.drop at_) ≤ 4096 := by omega
      rw [wrap64_in ((B.length : Int) - (at_ : Int)) (by omega) (by omega)]
      by_cases hl : szD (B.drop at_) > (B.length : Int) - (at_ : Int)
      · rw [h2 hb.symm (by omega)]
        exact Evt.ite_pos hl (Evt.pure _)
      · refine Evt.ite_neg hl (Evt.ite_pos (by omega) ?_)
        rw [wrap64_in ((at_ : Int) + szD (B.drop at_)) (by omega) (by omega)]
        refine Evt.ite_pos (by omega) (Evt.ite_pos (by omega) ?_)
        have h4 := h3 hb.symm (by omega) s0 s1
        rw [show ((at_ : Int) + szD (B.drop at_)).toNat = at_ + (szD (B.drop at_)).toNat by omega, Int.toNat_natCast, mid_drop]
        refine Evt.bindc (a := (B.drop at_).take (szD (B.drop at_)).toNat) ?_ (Evt.ite_pos (by omega) ?_)
        · unfold bytes_Clone.f
          rw [if_pos]
          rw [List.length_take]; omega
        · rw [show (at_ : Int) + szD (B.drop at_) = ((at_ + (szD (B.drop at_)).toNat : Nat) : Int) by omega]; exact h4
  have JT : badD (B.drop at_) = true → Evt (fun k => wire_Split.j1 k B acc (at_ : Int) (szD (B.drop at_)) true) R := fun e => J true e.symm
  refine Evt.step ?_
  simp only [wire_Split.l0]
  rw [wrap64_in ((B.length : Int) - (at_ : Int)) (by omega) (by omega), wrap64_in ((at_ : Int) + 16) (by omega) (by omega), wrap64_in ((at_ : Int) + 16 + 1) (by omega) (by omega), wrap64_in ((at_ : Int) + 19) (by omega) (by omega), wrap64_in ((at_ : Int) + 19 - 1) (by omega) (by omega)]
  have e16 : rd B ((at_ : Int) + 16) = (B.drop at_).getD 16 0 := rd_drop B at_ 16
  have e17 : rd B ((at_ : Int) + 16 + 1) = (B.drop at_).getD 17 0 := by rw [show (at_ : Int) + 16 + 1 = (at_ : Int) + ((17 : Nat) : Int) by omega]; exact rd_drop B at_ 17
  have e18 : rd B ((at_ : Int) + 19 - 1) = (B.drop at_).getD 18 0 := by rw [show (at_ : Int) + 19 - 1 = (at_ : Int) + ((18 : Nat) : Int) by omega]; exact rd_drop B at_ 18
  have esz : Go.bits .or .i64 (wrap64 (wrap64 ((B.drop at_).getD 16 0) * 256)) (wrap64 ((B.drop at_).getD 17 0)) = szD (B.drop at_) := or64 _ _ u16 u17
  rw [e16, e17, e18, esz]
  refine Evt.ite_pos (by omega) (Evt.ite_pos (by omega) (Evt.ite_pos (by omega) (Evt.ite_pos (by omega) (Evt.ite_pos (by omega) (Evt.ite_pos (by omega) (Evt.ite_pos (by omega) (Evt.ite_pos (by omega) (Evt.ite_pos (by omega) (Evt.ite_pos (by omega) ?_)))))))))
  rw [show ((at_ : Int) + 16).toNat = at_ + 16 by omega, Int.toNat_natCast, mid_drop]
  refine Evt.bindc (a := cntD (B.drop at_)) ?_ ?_
  · unfold bytes_Count.f
    simp only
    rw [if_pos (by rw [List.length_take]; omega)]; rfl
  · by_cases c1 : cntD (B.drop at_) < 16
    · exact Evt.ite_pos c1 (JT (by unfold badD; rw [decide_eq_true c1]; rfl))
    refine Evt.ite_neg c1 ?_
    by_cases c2 : szD (B.drop at_) < 19
    · exact Evt.ite_pos c2 (JT (by unfold badD; rw [decide_eq_true c2]; simp))
    refine Evt.ite_neg c2 ?_
    by_cases c3 : szD (B.drop at_) > 4096
    · exact Evt.ite_pos c3 (JT (by unfold badD; rw [decide_eq_true c3]; simp))
    refine Evt.ite_neg c3 ?_
    by_cases c4 : (B.drop at_).getD 18 0 < 1
    · exact Evt.ite_pos c4 (JT (by unfold badD; rw [decide_eq_true c4]; simp))
    refine Evt.ite_neg c4 (J _ ?_)
    unfold badD
    rw [decide_eq_false c1, decide_eq_false c2, decide_eq_false c3, decide_eq_false c4]; rfl
/-- why the splitting stops -/
def Stop (D : List Int) (e : Int) : Prop := (D.length < 19 ∧ e = 0) ∨ (19 ≤ D.length ∧ badD D = true ∧ e = 4) ∨ (19 ≤ D.length ∧ badD D = false ∧ (D.length : Int) < szD D ∧ e = 0)
/-- a message with a right head -/
def okM (l : List Int) : Prop := 19 ≤ l.length ∧ l.length ≤ 4096 ∧ l.getD 16 0 * 256 + l.getD 17 0 = (l.length : Int)
theorem split_ev (B : List Int) (hB : B.length ≤ 20000) (hu : U8 B) : ∀ (m at_ : Nat) (acc : List (List Int)), B.length - at_ ≤ m → at_ ≤ B.length → acc.length ≤ at_ →
    ∃ (L : List (List Int)) (n : Nat) (e : Int), Evt (fun k => wire_Split.l0 k B acc (at_ : Int)) (acc ++ L, (n : Int), e) ∧ at_ ≤ n ∧ n ≤ B.length ∧ (∀ l, l ∈ L → okM l) ∧ L.flatten = (B.drop at_).take (n - at_) ∧ Stop (B.drop n) e := by
  intro m
  induction m with
  | zero =>
    intro at_ acc hm hle ha
    have hs : (B.drop at_).length < 19 := by rw [List.length_drop]; omega
    exact ⟨[], at_, 0, by rw [List.append_nil]; exact sp_end B hB acc at_ hle hs, Nat.le_refl _, hle, fun l hl => (by cases hl), by simp, .inl ⟨hs, rfl⟩⟩
  | succ m ih =>
    intro at_ acc hm hle ha
    by_cases hs : (B.drop at_).length < 19
    · exact ⟨[], at_, 0, by rw [List.append_nil]; exact sp_end B hB acc at_ hle hs, Nat.le_refl _, hle, fun l hl => (by cases hl), by simp, .inl ⟨hs, rfl⟩⟩
    · have hs' : 19 ≤ (B.drop at_).length := by omega
      by_cases hb : badD (B.drop at_) = true
      · refine ⟨[], at_, 4, ?_, Nat.le_refl _, hle, fun l hl => (by cases hl), by simp, .inr (.inl ⟨hs', hb, rfl⟩)⟩
        rw [List.append_nil]
        exact sp_go B hB hu acc (by omega) at_ hle hs' _ (fun _ => rfl) (fun h => by rw [hb] at h; cases h) (fun h => by rw [hb] at h; cases h)
      · have hb' : badD (B.drop at_) = false := Bool.eq_false_iff.mpr hb
        by_cases hl : ((B.drop at_).length : Int) < szD (B.drop at_)
        · refine ⟨[], at_, 0, ?_, Nat.le_refl _, hle, fun l hl => (by cases hl), by simp, .inr (.inr ⟨hs', hb', hl, rfl⟩)⟩
          rw [List.append_nil]
          exact sp_go B hB hu acc (by omega) at_ hle hs' _ (fun h => by rw [hb'] at h; cases h) (fun _ _ => rfl) (fun _ h => by omega)
        · have hD : (B.drop at_).length = B.length - at_ := List.length_drop
          have hbb : (decide (cntD (B.drop at_) < 16) || decide (szD (B.drop at_) < 19) || decide (szD (B.drop at_) > 4096) || decide ((B.drop at_).getD 18 0 < 1) || decide ((B.drop at_).getD 18 0 > 4)) = false := hb'
          simp only [Bool.or_eq_false_iff, decide_eq_false_iff_not] at hbb
          have s0 : 19 ≤ szD (B.drop at_) := by omega
          have s1 : szD (B.drop at_) ≤ 4096 := by omega
          obtain ⟨z, hz⟩ : ∃ z : Nat, (z : Int) = szD (B.drop at_) := ⟨(szD (B.drop at_)).toNat, by omega⟩
          have hzn : (szD (B.drop at_)).toNat = z := by omega
          obtain ⟨L, n, e, hE, h1, h2, h3, h4, h5⟩ := ih (at_ + z) (acc ++ [(B.drop at_).take z]) (by omega) (by omega) (by simp; omega)
          refine ⟨(B.drop at_).take z :: L, n, e, ?_, by omega, h2, ?_, ?_, h5⟩
          · refine sp_go B hB hu acc (by omega) at_ hle hs' _ (fun h => by rw [hb'] at h; cases h) (fun _ h => by omega) (fun _ _ _ _ => ?_)
            rw [hzn]
            rw [show acc ++ (B.drop at_).take z :: L = acc ++ [(B.drop at_).take z] ++ L by simp]
            exact hE
          · intro l hl
            rcases List.mem_cons.1 hl with rfl | hl
            · have hlen : ((B.drop at_).take z).length = z := by rw [List.length_take]; omega
              refine ⟨by omega, by omega, ?_⟩
              rw [hlen]
              have g16 : ((B.drop at_).take z).getD 16 0 = (B.drop at_).getD 16 0 := by rw [List.getD_eq_getElem?_getD, List.getD_eq_getElem?_getD, List.getElem?_take_of_lt (by omega)]
              have g17 : ((B.drop at_).take z).getD 17 0 = (B.drop at_).getD 17 0 := by rw [List.getD_eq_getElem?_getD, List.getD_eq_getElem?_getD, List.getElem?_take_of_lt (by omega)]
              rw [g16, g17]
              exact hz.symm
            · exact h3 l hl
          · rw [List.flatten_cons, h4]
            have e1 : (B.drop at_).take (n - at_) = (B.drop at_).take z ++ ((B.drop at_).drop z).take (n - at_ - z) := by
              rw [show n - at_ = z + (n - at_ - z) by omega, List.take_add, show z + (n - at_ - z) - z = n - at_ - z by omega]
            rw [e1, List.drop_drop, show n - (at_ + z) = n - at_ - z by omega]
theorem split_stop (D : List Int) (hD : D.length ≤ 20000) (hu : U8 D) (e : Int) (h : Stop D e) : Evt (fun k => wire_Split.f k D) ([], 0, e) := by
  unfold wire_Split.f
  show Evt (fun k => wire_Split.l0 k D [] ((0 : Nat) : Int)) ([], ((0 : Nat) : Int), e)
  rcases h with ⟨h1, rfl⟩ | ⟨h1, h2, rfl⟩ | ⟨h1, h2, h3, rfl⟩
  · exact sp_end D hD [] 0 (by omega) h1
  · exact sp_go D hD hu [] (by simp) 0 (by omega) h1 _ (fun _ => rfl) (fun h => by rw [List.drop_zero, h2] at h; cases h) (fun h => by rw [List.drop_zero, h2] at h; cases h)
  · exact sp_go D hD hu [] (by simp) 0 (by omega) h1 _ (fun h => by rw [List.drop_zero, h2] at h; cases h) (fun _ _ => rfl) (fun _ h => by rw [List.drop_zero] at h; omega)
end Go.Proofs.Ytjmpojfpbhihpaa.P

end
section
namespace Go.Proofs.Ytjmpojfpbhihpaa.Pure
open Go.RowKit Go.Proofs.Ytjmpojfpbhihpaa.P Go.Proofs.YtjmpojfpbhihpaaW.PrintWords Go.Proofs.YtjmpojfpbhihpaaW.PrintLast Go.Proofs.YtjmpojfpbhihpaaW.PrintMore
set_option linter.unusedVariables false
set_option linter.unusedSimpArgs false

theorem okI_u8 {n : Int} (h : okI .u8 n) : 0 ≤ n ∧ n ≤ 255 := by
  unfold okI Lit.wf at h; simp [IntKind.min, IntKind.max, IntKind.bits, IntKind.signed] at h; omega
theorem rdL (L : List (List Int)) (i : Nat) (l : List Int) (h : L[i]? = some l) : rd_L1 L (i : Int) = l := by
  unfold rd_L1
  rw [Int.toNat_natCast, List.getD_eq_getElem?_getD, h]; rfl
theorem flat_len (L : List (List Int)) (h : ∀ l, l ∈ L → 1 ≤ l.length) : L.length ≤ L.flatten.length := by
  induction L with
  | nil => simp
  | cons a L ih =>
    have h1 := h a (by simp)
    have h2 := ih (fun l hl => h l (by simp [hl]))
    rw [List.flatten_cons, List.length_append, List.length_cons]; omega
theorem WireStreams (x0 : List (Int)) (ok_0 : (okL 1 (okI .u8)) x0) : ∃ k, Go.Proofs.Ytjmpojfpbhihpaa.P.whirligiglaw10_WireStreams.f k x0 = some true := by
  have hu : U8 x0 := fun x hx => okI_u8 (ok_0.2 x hx)
  obtain ⟨B, hBx⟩ : ∃ B, B = x0 := ⟨_, rfl⟩
  rw [← hBx] at hu ⊢
  refine Evt.ex ?_
  have hL : Evt (fun k => (whirligiglaw10_lives.f k).bind fun t => some t) true := Evt.bind lives_ev (Evt.pure _)
  unfold whirligiglaw10_WireStreams.f
  by_cases h : (B.length : Int) > 20000
  · exact Evt.ite_pos h hL
  · refine Evt.ite_neg h ?_
    have hB : B.length ≤ 20000 := by omega
    obtain ⟨L, n, e, hE, _, hn, hM, hF, hS⟩ := split_ev B hB hu B.length 0 [] (by omega) (by omega) (by simp)
    rw [List.nil_append] at hE
    rw [List.drop_zero, Nat.sub_zero] at hF
    have hfl : L.flatten.length = n := by rw [hF, List.length_take]; omega
    have hLl := flat_len L (fun l hl => by have := (hM l hl).1; omega)
    refine Evt.bind (show Evt (fun k => wire_Split.f k B) (L, (n : Int), e) from hE) ?_
    have J : Evt (fun k => whirligiglaw10_WireStreams.j1 k B (n : Int) e false) true := by
      refine Evt.step ?_
      simp only [whirligiglaw10_WireStreams.j1]
      refine Evt.ite_neg (by simp) (Evt.ite_pos (by omega) (Evt.ite_pos (by omega) ?_))
      rw [Int.toNat_natCast]
      refine Evt.bind (split_stop (B.drop n) (by rw [List.length_drop]; omega) (hu.drop n) e hS) (Evt.ite_pos rfl (Evt.ite_pos rfl (Evt.ite_pos rfl ?_)))
      rw [wrap64_in ((B.length : Int) - (n : Int)) (by omega) (by omega)]
      rcases hS with ⟨h1, h2⟩ | ⟨h1, h2, h3⟩ | ⟨h1, h2, h3, h4⟩
      · exact Evt.ite_pos h2 hL
      · rw [List.length_drop] at h1
        exact Evt.ite_neg (by omega) (Evt.ite_pos h3 (Evt.ite_pos (by omega) hL))
      · exact Evt.ite_pos h4 hL
    have go : ∀ (d i : Nat), L.length - i = d → i ≤ L.length → Evt (fun k => whirligiglaw10_WireStreams.l0 k B L (n : Int) e (strOfNums (L.take i).flatten) (i : Int)) true := by
      intro d
      induction d with
      | zero =>
        intro i hd hi
        have hall : L.take i = L := List.take_of_length_le (by omega)
        rw [hall]
        refine Evt.step ?_
        simp only [whirligiglaw10_WireStreams.l0]
        refine Evt.ite_neg (by omega) (Evt.ite_pos (by rw [strOfNums_size, hfl]) (Evt.ite_neg (by omega) (Evt.ite_pos (by omega) (Evt.ite_pos (by omega) ?_))))
        rw [Int.toNat_natCast, hF, show ((strOfNums (B.take n)).toList != (strOfNums (B.take n)).toList) = false by simp]
        exact J
      | succ d ih =>
        intro i hd hi
        obtain ⟨l, hl⟩ : ∃ l, L[i]? = some l := ⟨_, List.getElem?_eq_getElem (h := by omega)⟩
        obtain ⟨m1, m2, m3⟩ := hM l (List.mem_of_getElem? hl)
        have hr := rdL L i l hl
        have htk : L.take (i + 1) = L.take i ++ [l] := by
          obtain ⟨hh, e1⟩ := List.getElem?_eq_some_iff.1 hl
          rw [List.take_add_one, hl]; rfl
        have hlt : (L.take (i + 1)).flatten.length ≤ n := by
          have := congrArg List.length (List.flatten_append (L₁ := L.take (i + 1)) (L₂ := L.drop (i + 1)))
          rw [List.take_append_drop, List.length_append, hfl] at this
          omega
        have hUl : U8 l := by
          intro x hx
          have : x ∈ L.flatten := List.mem_flatten.2 ⟨l, List.mem_of_getElem? hl, hx⟩
          rw [hF] at this
          exact hu x (List.mem_of_mem_take this)
        have u16 := hUl.at 16
        have u17 := hUl.at 17
        have hi1 := ih (i + 1) (by omega) (by omega)
        rw [htk, List.flatten_append] at hi1 hlt
        rw [show ([l] : List (List Int)).flatten = l by simp] at hi1 hlt
        rw [← son_app] at hi1
        rw [List.length_append] at hlt
        refine Evt.step ?_
        simp only [whirligiglaw10_WireStreams.l0]
        rw [hr]
        have r16 : rd l 16 = l.getD 16 0 := rfl
        have r17 : rd l 17 = l.getD 17 0 := rfl
        rw [r16, r17, wrap64_in (l.getD 16 0) (by omega) (by omega), wrap64_in (l.getD 17 0) (by omega) (by omega), wrap64_in (l.getD 16 0 * 256) (by omega) (by omega), wrap64_in (l.getD 16 0 * 256 + l.getD 17 0) (by omega) (by omega), wrap64_in ((i : Int) + 1) (by omega) (by omega)]
        refine Evt.ite_pos (by omega) (Evt.ite_pos (by omega) (Evt.ite_neg (by omega) (Evt.ite_neg (by omega) (Evt.ite_pos (by omega) (Evt.ite_pos (by omega) (Evt.ite_pos m3 (Evt.ite_pos ?_ ?_)))))))
        · rw [strOfNums_size, strOfNums_size]; omega
        · rw [show (i : Int) + 1 = ((i + 1 : Nat) : Int) by omega]; exact hi1
    have := go L.length 0 (by omega) (by omega)
    rw [List.take_zero, show strOfNums ([] : List (List Int)).flatten = (⟨#[]⟩ : ByteArray) from rfl] at this
    exact this
end Go.Proofs.Ytjmpojfpbhihpaa.Pure

end
