/- Part of the proof of RowWireSplits: what it asks of functions, words and plain facts (put together by this session's own program, wip/tools/shake.py). -/
import Derived.Test.YtjmpojfpbhihpaaZWireSplits0
import Derived.Test.YtjmpojfpbhihpaaZWireSplits1
import Derived.Test.YtjmpojfpbhihpaaZWireSplits2
import Derived.Test.YtjmpojfpbhihpaaZWireSplits3
import Derived.Test.YtjmpojfpbhihpaaZWireSplits4
import Derived.Test.YtjmpojfpbhihpaaZWireSplits5
import Derived.Deep.Slices
import Derived.ChangeArms
import Derived.OpenShut
import Derived.SizedLaws
import Derived.KernelRfl
section
namespace Go.Proofs.Ytjmpojfpbhihpaa.P
open Go.RowKit Go.Proofs.YtjmpojfpbhihpaaW.PrintWords Go.Proofs.YtjmpojfpbhihpaaW.PrintLast Go.Proofs.YtjmpojfpbhihpaaW.PrintMore
set_option linter.unusedVariables false
set_option linter.unusedSimpArgs false

theorem num2 (B : List Int) (n : Int) (hB : B.length ≤ 90000) (hu : U8 B) : ∃ r : List Int, Evt (fun k => wire_number.f k B n 2) r ∧ r.length = B.length + 2 ∧ U8 r := by
  obtain ⟨r, h1, h2, h3⟩ := num_len 2 B n (by omega) (by omega) hu
  refine ⟨r, ?_, h2, h3⟩
  unfold wire_number.f
  rw [wrap64_in _ (by omega) (by omega)]
  exact h1
theorem num4 (B : List Int) (n : Int) (hB : B.length ≤ 90000) (hu : U8 B) : ∃ r : List Int, Evt (fun k => wire_number.f k B n 4) r ∧ r.length = B.length + 4 ∧ U8 r := by
  obtain ⟨r, h1, h2, h3⟩ := num_len 4 B n (by omega) (by omega) hu
  refine ⟨r, ?_, h2, h3⟩
  unfold wire_number.f
  rw [wrap64_in _ (by omega) (by omega)]
  exact h1
theorem one_is (l0 : List Int) (a b : Int) (l3 : List Int) (h0 : l0.length ≤ 90000) (h3 : l3.length ≤ 90000) : wire_one.f l0 a b l3 = some (l0 ++ [a, b, (l3.length : Int) % 256] ++ l3) := by
  unfold wire_one.f
  simp only [Option.bind_some]
  rw [if_pos (by simp; omega), if_pos (by simp; omega)]
theorem one_u8 {l0 l3 : List Int} {a b : Int} (h0 : U8 l0) (h3 : U8 l3) (ha : 0 ≤ a ∧ a ≤ 255) (hb : 0 ≤ b ∧ b ≤ 255) : U8 (l0 ++ [a, b, (l3.length : Int) % 256] ++ l3) := by
  refine (h0.append (fun x hx => ?_)).append h3
  simp only [List.mem_cons, List.not_mem_nil, or_false] at hx
  rcases hx with rfl | rfl | rfl
  · exact ha
  · exact hb
  · exact u8_mod _
section
variable (p m o : Int) (path : List Int) (cs : List S102) (f : Int) (cl : List Int)
theorem at_j5 (x3 x8 : List Int) (h3 : x3.length ≤ 10000) (h8 : x8.length ≤ 10000) (u3 : U8 x3) (u8' : U8 x8) :
    ∃ r : List Int, Evt (fun k => wire_attributes.j5 k x3 x8 p m o path cs f cl) r ∧ r.length ≤ x3.length + x8.length + 10 ∧ U8 r := by
  have tail : ∀ y : List Int, y.length ≤ 20000 → U8 y → ∃ r : List Int, Evt (fun k => if (x8.length : Int) > 0 then ((wire_one.f y 128 10 x8).bind fun t285 => (some t285)) else (some y)) r ∧ r.length ≤ y.length + x8.length + 3 ∧ U8 r := by
    intro y hy uy
    by_cases h : (x8.length : Int) > 0
    · refine ⟨_, Evt.ite_pos h (Evt.bindc (one_is y 128 10 x8 (by omega) (by omega)) (Evt.pure _)), by simp; omega, one_u8 uy u8' (by omega) (by omega)⟩
    · exact ⟨y, Evt.ite_neg h (Evt.pure _), by omega, uy⟩
  by_cases hf : f > 0
  · obtain ⟨r, n1, n2, n3⟩ := num4 [] f (by simp) U8.nil
    have ho := one_is x3 128 9 r (by omega) (by simp at n2; omega)
    obtain ⟨q, q1, q2, q3⟩ := tail (x3 ++ [128, 9, (r.length : Int) % 256] ++ r) (by simp at n2 ⊢; omega) (one_u8 u3 n3 (by omega) (by omega))
    refine ⟨q, Evt.step ?_, by simp at n2 q2; omega, q3⟩
    simp only [wire_attributes.j5]
    exact Evt.ite_pos hf (Evt.bind n1 (Evt.bindc ho q1))
  · obtain ⟨q, q1, q2, q3⟩ := tail x3 (by omega) u3
    refine ⟨q, Evt.step ?_, by omega, q3⟩
    simp only [wire_attributes.j5]
    exact Evt.ite_neg hf q1
theorem at_l2 (hcl : cl.length ≤ 100) (x3 x7 : List Int) (h3 : x3.length ≤ 5000) (h7 : x7.length ≤ 2000) (u3 : U8 x3) (u7 : U8 x7) : ∀ (d i : Nat) (x8 : List Int), cl.length - i = d → i ≤ cl.length → x8.length ≤ 4 * i → U8 x8 →
    ∃ r : List Int, Evt (fun k => wire_attributes.l2 k x3 x7 x8 cl (cl.length : Int) (i : Int) p m o path cs f cl) r ∧ r.length ≤ x3.length + x7.length + x8.length + 4 * d + 13 ∧ U8 r := by
  intro d
  induction d with
  | zero =>
    intro i x8 hd hi h8 u8'
    by_cases h : (x7.length : Int) > 0
    · obtain ⟨r, r1, r2, r3⟩ := at_j5 p m o path cs f cl (x3 ++ [192, 8, (x7.length : Int) % 256] ++ x7) x8 (by simp; omega) (by omega) (one_u8 u3 u7 (by omega) (by omega)) u8'
      refine ⟨r, Evt.step ?_, by simp at r2; omega, r3⟩
      simp only [wire_attributes.l2]
      exact Evt.ite_neg (by omega) (Evt.ite_pos h (Evt.bindc (one_is x3 192 8 x7 (by omega) (by omega)) r1))
    · obtain ⟨r, r1, r2, r3⟩ := at_j5 p m o path cs f cl x3 x8 (by omega) (by omega) u3 u8'
      refine ⟨r, Evt.step ?_, by omega, r3⟩
      simp only [wire_attributes.l2]
      exact Evt.ite_neg (by omega) (Evt.ite_neg h r1)
  | succ d ih =>
    intro i x8 hd hi h8 u8'
    obtain ⟨y, y1, y2, y3⟩ := num4 x8 (rd cl (i : Int)) (by omega) u8'
    obtain ⟨r, r1, r2, r3⟩ := ih (i + 1) y (by omega) (by omega) (by omega) y3
    refine ⟨r, Evt.step ?_, by omega, r3⟩
    simp only [wire_attributes.l2]
    refine Evt.ite_pos (by omega) (Evt.ite_pos (by omega) (Evt.ite_pos (by omega) (Evt.bind y1 ?_)))
    rw [wrap64_in _ (by omega) (by omega)]
    exact r1
theorem at_l1 (hcs : cs.length ≤ 100) (hcl : cl.length ≤ 100) (x3 : List Int) (h3 : x3.length ≤ 5000) (u3 : U8 x3) : ∀ (d i : Nat) (x7 : List Int), cs.length - i = d → i ≤ cs.length → x7.length ≤ 4 * i → U8 x7 →
    ∃ r : List Int, Evt (fun k => wire_attributes.l1 k x3 x7 cs (cs.length : Int) (i : Int) p m o path cs f cl) r ∧ r.length ≤ x3.length + x7.length + 4 * d + 4 * cl.length + 13 ∧ U8 r := by
  intro d
  induction d with
  | zero =>
    intro i x7 hd hi h7 u7
    obtain ⟨r, r1, r2, r3⟩ := at_l2 p m o path cs f cl hcl x3 x7 h3 (by omega) u3 u7 cl.length 0 [] (by omega) (by omega) (by simp) U8.nil
    refine ⟨r, Evt.step ?_, by simp at r2; omega, r3⟩
    simp only [wire_attributes.l1]
    exact Evt.ite_neg (by omega) r1
  | succ d ih =>
    intro i x7 hd hi h7 u7
    obtain ⟨y, y1, y2, y3⟩ := num2 x7 ((rd_T102 cs (i : Int)).f0) (by omega) u7
    obtain ⟨z, z1, z2, z3⟩ := num2 y ((rd_T102 cs (i : Int)).f1) (by omega) y3
    obtain ⟨r, r1, r2, r3⟩ := ih (i + 1) z (by omega) (by omega) (by omega) z3
    refine ⟨r, Evt.step ?_, by omega, r3⟩
    simp only [wire_attributes.l1]
    refine Evt.ite_pos (by omega) (Evt.ite_pos (by omega) (Evt.ite_pos (by omega) (Evt.bind y1 (Evt.bind z1 ?_))))
    rw [wrap64_in _ (by omega) (by omega)]
    exact r1
theorem at_j2 (hcs : cs.length ≤ 100) (hcl : cl.length ≤ 100) (x3 : List Int) (h3 : x3.length ≤ 4000) (u3 : U8 x3) :
    ∃ r : List Int, Evt (fun k => wire_attributes.j2 k x3 p m o path cs f cl) r ∧ r.length ≤ x3.length + 4 * cs.length + 4 * cl.length + 20 ∧ U8 r := by
  obtain ⟨y, y1, y2, y3⟩ := num4 [] p (by simp) U8.nil
  obtain ⟨r, r1, r2, r3⟩ := at_l1 p m o path cs f cl hcs hcl (x3 ++ [64, 5, (y.length : Int) % 256] ++ y) (by simp at y2 ⊢; omega) (one_u8 u3 y3 (by omega) (by omega)) cs.length 0 [] (by omega) (by omega) (by simp) U8.nil
  refine ⟨r, Evt.step ?_, by simp at y2 r2; omega, r3⟩
  simp only [wire_attributes.j2]
  exact Evt.bind y1 (Evt.bindc (one_is x3 64 5 y (by omega) (by simp at y2; omega)) r1)
theorem at_l0 (hp : path.length ≤ 100) (hcs : cs.length ≤ 100) (hcl : cl.length ≤ 100) (x3 : List Int) (h3 : x3.length ≤ 1000) (u3 : U8 x3) : ∀ (d i : Nat) (x4 : List Int), path.length - i = d → i ≤ path.length → x4.length ≤ 2 + 2 * i → U8 x4 →
    ∃ r : List Int, Evt (fun k => wire_attributes.l0 k x3 x4 path (path.length : Int) (i : Int) p m o path cs f cl) r ∧ r.length ≤ x3.length + x4.length + 2 * d + 4 * cs.length + 4 * cl.length + 30 ∧ U8 r := by
  intro d
  induction d with
  | zero =>
    intro i x4 hd hi h4 u4
    have ho := one_is x3 64 2 x4 (by omega) (by omega)
    have uo := one_u8 u3 u4 (a := 64) (b := 2) (by omega) (by omega)
    by_cases hm : m > 0
    · obtain ⟨y, y1, y2, y3⟩ := num4 [] m (by simp) U8.nil
      have ho2 := one_is (x3 ++ [64, 2, (x4.length : Int) % 256] ++ x4) 128 4 y (by simp; omega) (by simp at y2; omega)
      obtain ⟨r, r1, r2, r3⟩ := at_j2 p m o path cs f cl hcs hcl _ (by simp at y2 ⊢; omega) (one_u8 uo y3 (a := 128) (b := 4) (by omega) (by omega))
      refine ⟨r, Evt.step ?_, by simp at y2 r2; omega, r3⟩
      simp only [wire_attributes.l0]
      exact Evt.ite_neg (by omega) (Evt.bindc ho (Evt.ite_pos hm (Evt.bind y1 (Evt.bindc ho2 r1))))
    · obtain ⟨r, r1, r2, r3⟩ := at_j2 p m o path cs f cl hcs hcl _ (by simp; omega) uo
      refine ⟨r, Evt.step ?_, by simp at r2; omega, r3⟩
      simp only [wire_attributes.l0]
      exact Evt.ite_neg (by omega) (Evt.bindc ho (Evt.ite_neg hm r1))
  | succ d ih =>
    intro i x4 hd hi h4 u4
    obtain ⟨y, y1, y2, y3⟩ := num2 x4 (rd path (i : Int)) (by omega) u4
    obtain ⟨r, r1, r2, r3⟩ := ih (i + 1) y (by omega) (by omega) (by omega) y3
    refine ⟨r, Evt.step ?_, by omega, r3⟩
    simp only [wire_attributes.l0]
    refine Evt.ite_pos (by omega) (Evt.ite_pos (by omega) (Evt.ite_pos (by omega) (Evt.bind y1 ?_)))
    rw [wrap64_in _ (by omega) (by omega)]
    exact r1
theorem at_ev (hp : path.length ≤ 100) (hcs : cs.length ≤ 100) (hcl : cl.length ≤ 100) :
    ∃ r : List Int, Evt (fun k => wire_attributes.f k p m o path cs f cl) r ∧ r.length ≤ 2 * path.length + 4 * cs.length + 4 * cl.length + 36 ∧ U8 r := by
  have u1 : U8 [o % 256] := fun x hx => by rw [List.mem_singleton.1 hx]; exact u8_mod _
  have ho := one_is [] 64 1 [o % 256] (by simp) (by simp)
  have uo := one_u8 U8.nil u1 (a := 64) (b := 1) (by omega) (by omega)
  have go : ∀ x4 : List Int, x4.length ≤ 2 → U8 x4 → ∃ r : List Int, Evt (fun k => wire_attributes.j0 k ([] ++ [64, 1, ([o % 256].length : Int) % 256] ++ [o % 256]) x4 p m o path cs f cl) r ∧ r.length ≤ 2 * path.length + 4 * cs.length + 4 * cl.length + 36 ∧ U8 r := by
    intro x4 h4 u4
    obtain ⟨r, r1, r2, r3⟩ := at_l0 p m o path cs f cl hp hcs hcl _ (by simp) uo path.length 0 x4 (by omega) (by omega) (by omega) u4
    refine ⟨r, Evt.step ?_, by simp at r2; omega, r3⟩
    simp only [wire_attributes.j0]
    exact r1
  unfold wire_attributes.f
  by_cases h : (path.length : Int) > 0
  · obtain ⟨r, r1, r2, r3⟩ := go [2, (path.length : Int) % 256] (by simp) (fun x hx => by
      simp only [List.mem_cons, List.not_mem_nil, or_false] at hx
      rcases hx with rfl | rfl
      · omega
      · exact u8_mod _)
    exact ⟨r, Evt.bindc ho (Evt.ite_pos h r1), r2, r3⟩
  · obtain ⟨r, r1, r2, r3⟩ := go [] (by simp) U8.nil
    exact ⟨r, Evt.bindc ho (Evt.ite_neg h r1), r2, r3⟩
end
theorem pfx_len (a b : Int) : (pfx a b).length ≤ 5 := by
  unfold pfx
  rw [List.length_cons, List.length_take]
  have : (be4 a).length = 4 := rfl
  omega
theorem pfx_u8 (a b : Int) (h : mayB a b = true) : U8 (pfx a b) := by
  obtain ⟨b0, b1, _⟩ := (mayB_iff a b).1 h
  intro x hx
  unfold pfx at hx
  rcases List.mem_cons.1 hx with rfl | hx
  · omega
  · have := List.mem_of_mem_take hx
    simp only [be4, List.mem_cons, List.not_mem_nil, or_false] at this
    rcases this with rfl | rfl | rfl | rfl <;> exact u8_mod _
theorem pre_loop (l : List S25) (hl : l.length ≤ 100) (hok : ∀ x ∈ l, isA x.f0) : ∀ (d i : Nat) (x3 : List Int), l.length - i = d → i ≤ l.length → x3.length ≤ 5 * i → U8 x3 →
    ∃ r : List Int, Evt (fun k => wire_prefixes.l0 k x3 l (l.length : Int) (i : Int)) r ∧ r.length ≤ x3.length + 5 * d ∧ U8 r := by
  intro d
  induction d with
  | zero =>
    intro i x3 hd hi h3 u3
    refine ⟨x3, Evt.step ?_, by omega, u3⟩
    simp only [wire_prefixes.l0]
    exact Evt.ite_neg (by omega) (Evt.pure _)
  | succ d ih =>
    intro i x3 hd hi h3 u3
    have hlt : i < l.length := by omega
    obtain ⟨x, hx⟩ : ∃ x, l[i]? = some x := ⟨_, List.getElem?_eq_getElem (h := hlt)⟩
    have hrd : rd_T25 l (i : Int) = x := by unfold rd_T25; rw [Int.toNat_natCast, List.getD_eq_getElem?_getD, hx]; rfl
    have hxa := hok x (List.mem_of_getElem? hx)
    have hp := wPrefix_ev x3 (by omega) x.f0 x.f1 hxa
    obtain ⟨y, hy⟩ : ∃ y, y = (if mayB x.f0 x.f1 = true then x3 ++ pfx x.f0 x.f1 else x3) := ⟨_, rfl⟩
    rw [← hy] at hp
    have hyl : y.length ≤ x3.length + 5 ∧ U8 y := by
      rw [hy]
      split
      · rename_i hm
        have := pfx_len x.f0 x.f1
        exact ⟨by rw [List.length_append]; omega, u3.append (pfx_u8 _ _ hm)⟩
      · exact ⟨by omega, u3⟩
    obtain ⟨r, r1, r2, r3⟩ := ih (i + 1) y (by omega) (by omega) (by omega) hyl.2
    refine ⟨r, Evt.step ?_, by omega, r3⟩
    simp only [wire_prefixes.l0]
    refine Evt.ite_pos (by omega) (Evt.ite_pos (by omega) (Evt.ite_pos (by omega) ?_))
    rw [hrd]
    refine Evt.bind hp ?_
    rw [wrap64_in _ (by omega) (by omega)]
    exact r1
theorem pre_ev (l : List S25) (hl : l.length ≤ 100) (hok : ∀ x ∈ l, isA x.f0) : ∃ r : List Int, Evt (fun k => wire_prefixes.f k l) r ∧ r.length ≤ 5 * l.length ∧ U8 r := by
  obtain ⟨r, r1, r2, r3⟩ := pre_loop l hl hok l.length 0 [] (by omega) (by omega) (by simp) U8.nil
  exact ⟨r, r1, by simpa using r2, r3⟩
theorem rises_loop (l : List S25) (hl : l.length ≤ 100) (hok : ∀ x ∈ l, isA x.f0) : ∀ (d i : Nat), l.length - i = d → i ≤ l.length → ∃ q, Evt (fun k => wire_rises.l0 k l l (l.length : Int) (i : Int)) q := by
  intro d
  induction d with
  | zero =>
    intro i hd hi
    refine ⟨true, Evt.step ?_⟩
    simp only [wire_rises.l0]
    exact Evt.ite_neg (by omega) (Evt.pure _)
  | succ d ih =>
    intro i hd hi
    have hat : ∀ j : Nat, j < l.length → isA (rd_T25 l (j : Int)).f0 := fun j hj => by
      obtain ⟨x, hx⟩ : ∃ x, l[j]? = some x := ⟨_, List.getElem?_eq_getElem (h := hj)⟩
      have hrd : rd_T25 l (j : Int) = x := by unfold rd_T25; rw [Int.toNat_natCast, List.getD_eq_getElem?_getD, hx]; rfl
      rw [hrd]; exact hok x (List.mem_of_getElem? hx)
    have hxa := hat i (by omega)
    have hm := may_is (rd_T25 l (i : Int)).f0 (rd_T25 l (i : Int)).f1 hxa
    have hw1 : wrap64 ((i : Int) + 1) = ((i + 1 : Nat) : Int) := by rw [wrap64_in _ (by omega) (by omega)]; omega
    obtain ⟨q, hq⟩ := ih (i + 1) (by omega) (by omega)
    cases hmb : mayB (rd_T25 l (i : Int)).f0 (rd_T25 l (i : Int)).f1 with
    | false =>
      rw [hmb] at hm
      refine ⟨false, Evt.step ?_⟩
      simp only [wire_rises.l0]
      exact Evt.ite_pos (by omega) (Evt.ite_pos (by omega) (Evt.ite_pos (by omega) (Evt.bindc hm (Evt.ite_neg (by simp) (Evt.pure _)))))
    | true =>
      rw [hmb] at hm
      by_cases h0 : (i : Int) > 0
      · have hw : wrap64 ((i : Int) - 1) = ((i - 1 : Nat) : Int) := by rw [wrap64_in _ (by omega) (by omega)]; omega
        have hya := hat (i - 1) (by omega)
        obtain ⟨s, hs⟩ : ∃ s, addr_Before.f (rd_T25 l ((i - 1 : Nat) : Int)).f0 (rd_T25 l ((i - 1 : Nat) : Int)).f1 (rd_T25 l (i : Int)).f0 (rd_T25 l (i : Int)).f1 = some s := by
          unfold addr_Before.f addr_before.f
          rw [may_is _ _ hya, may_is _ _ hxa]
          simp only [Option.bind_some]
          cases mayB (rd_T25 l ((i - 1 : Nat) : Int)).f0 (rd_T25 l ((i - 1 : Nat) : Int)).f1 <;> cases mayB (rd_T25 l (i : Int)).f0 (rd_T25 l (i : Int)).f1 <;> simp only [if_true, Bool.false_eq_true, if_false] <;> (try exact ⟨_, rfl⟩)
          split
          · exact ⟨_, rfl⟩
          · split <;> exact ⟨_, rfl⟩
        cases s with
        | true =>
          refine ⟨q, Evt.step ?_⟩
          simp only [wire_rises.l0]
          rw [hw, hw1]
          exact Evt.ite_pos (by omega) (Evt.ite_pos (by omega) (Evt.ite_pos (by omega) (Evt.bindc hm (Evt.ite_pos rfl (Evt.ite_pos h0 (Evt.ite_pos (by omega) (Evt.ite_pos (by omega) (Evt.bindc hs (Evt.ite_pos rfl hq)))))))))
        | false =>
          refine ⟨false, Evt.step ?_⟩
          simp only [wire_rises.l0]
          rw [hw]
          exact Evt.ite_pos (by omega) (Evt.ite_pos (by omega) (Evt.ite_pos (by omega) (Evt.bindc hm (Evt.ite_pos rfl (Evt.ite_pos h0 (Evt.ite_pos (by omega) (Evt.ite_pos (by omega) (Evt.bindc hs (Evt.ite_neg (by simp) (Evt.pure _))))))))))
      · refine ⟨q, Evt.step ?_⟩
        simp only [wire_rises.l0]
        rw [hw1]
        exact Evt.ite_pos (by omega) (Evt.ite_pos (by omega) (Evt.ite_pos (by omega) (Evt.bindc hm (Evt.ite_pos rfl (Evt.ite_neg h0 hq)))))
theorem rises_ev (l : List S25) (hl : l.length ≤ 100) (hok : ∀ x ∈ l, isA x.f0) : ∃ q, Evt (fun k => wire_rises.f k l) q ∧ (q = true → l.length ≤ 32) := by
  unfold wire_rises.f
  by_cases h : (l.length : Int) > 32
  · exact ⟨false, Evt.ite_pos h (Evt.pure _), fun e => by cases e⟩
  · obtain ⟨q, hq⟩ := rises_loop l hl hok l.length 0 (by omega) (by omega)
    exact ⟨q, Evt.ite_neg h hq, fun _ => by omega⟩
theorem attrSame_ex (p m o : Int) (path : List Int) (cs : List S102) (f : Int) (cl : List Int) (h1 : path.length ≤ 1000) (h2 : cl.length ≤ 1000) :
    ∃ q, Evt (fun k => attr_Same.f k p m o path cs f cl 0 0 0 ([] : List Int) ([] : List S102) 0 ([] : List Int)) q := by
  unfold attr_Same.f attr_Compare.f
  have hc : ∀ a b : Int, ∃ r, cmp_Compare_int.f a b = some r := fun a b => by
    unfold cmp_Compare_int.f cmp_isNaN_int.f
    simp only [Option.bind_some]
    repeat' split
    all_goals exact ⟨_, rfl⟩
  obtain ⟨c1, e1⟩ := hc p 0
  obtain ⟨c2, e2⟩ := hc m 0
  obtain ⟨c3, e3⟩ := hc o 0
  obtain ⟨c4, e4⟩ := hc f 0
  refine ⟨_, Evt.bind (Evt.bindc e1 (Evt.bindc e2 (Evt.bindc e3 (Evt.bind (asCmp_ev path [] h1) (Evt.bindc rfl (Evt.bindc e4 (Evt.bind (asCmp_ev cl [] h2) (Evt.bind (cmpOrF_ev _ (by simp)) (Evt.pure _))))))))) (Evt.pure _)⟩
theorem clustB_len {l : List Int} (h : clustB l = true) : l.length ≤ 8 := by
  unfold clustB at h
  simp only [Bool.and_eq_true, decide_eq_true_eq] at h
  exact h.1
theorem may_ev (u0 u1 : List S25) (p m o : Int) (path : List Int) (cs : List S102) (f : Int) (cl : List Int) (h0 : u0.length ≤ 100) (h1 : u1.length ≤ 100) (hp : path.length ≤ 100) (hcs : cs.length ≤ 100) (hcl : cl.length ≤ 100) (k0 : ∀ x ∈ u0, isA x.f0) (k1 : ∀ x ∈ u1, isA x.f0) :
    ∃ q, Evt (fun k => wire_May.f k u0 u1 p m o path cs f cl) q ∧ (q = true → u0.length ≤ 32 ∧ u1.length ≤ 32 ∧ (u1.length = 0 ∨ path.length ≤ 16 ∧ cs.length ≤ 8 ∧ cl.length ≤ 8)) := by
  obtain ⟨q0, e0, b0⟩ := rises_ev u0 h0 k0
  obtain ⟨q1, e1, b1⟩ := rises_ev u1 h1 k1
  obtain ⟨qs, es⟩ := attrSame_ex p m o path cs f cl (by omega) (by omega)
  have em := attrMay_ev p m o path cs f cl hcs hcl
  have jt : Evt (fun k => wire_May.j0 k true u0 u1 p m o path cs f cl) false := Evt.step (by simp only [wire_May.j0]; exact Evt.ite_pos (by first | rfl | trivial) (Evt.pure _))
  unfold wire_May.f
  cases q0 with
  | false => exact ⟨false, Evt.bind e0 (Evt.ite_neg (by simp) jt), fun e => by cases e⟩
  | true =>
    cases q1 with
    | false => exact ⟨false, Evt.bind e0 (Evt.ite_pos rfl (Evt.bind e1 (Evt.ite_neg (by simp) jt))), fun e => by cases e⟩
    | true =>
      obtain ⟨z, hz⟩ : ∃ z : Bool, z = ((wrap64 ((u0.length : Int) + (u1.length : Int))) == 0) := ⟨_, rfl⟩
      rw [← hz]
      cases z with
      | true => exact ⟨false, Evt.bind e0 (Evt.ite_pos rfl (Evt.bind e1 (Evt.ite_pos rfl jt))), fun e => by cases e⟩
      | false =>
        by_cases hn : (u1.length : Int) = 0
        · refine ⟨qs, Evt.bind e0 (Evt.ite_pos rfl (Evt.bind e1 (Evt.ite_pos rfl (Evt.step ?_)))), fun e => ⟨b0 rfl, b1 rfl, .inl (by omega)⟩⟩
          simp only [wire_May.j0]
          exact Evt.ite_neg (by simp) (Evt.ite_pos hn (Evt.bind es (Evt.pure _)))
        · refine ⟨mayAB p m o path cs f cl, Evt.bind e0 (Evt.ite_pos rfl (Evt.bind e1 (Evt.ite_pos rfl (Evt.step ?_)))), fun e => ⟨b0 rfl, b1 rfl, .inr ?_⟩⟩
          · simp only [wire_May.j0]
            exact Evt.ite_neg (by simp) (Evt.ite_neg hn (Evt.bind em (Evt.pure _)))
          · unfold mayAB pathB setB at e
            simp only [Bool.and_eq_true, decide_eq_true_eq] at e
            exact ⟨e.2.1.1, e.2.2.1.1, clustB_len e.2.2.2⟩
theorem framed_is (data : List Int) (h : data.length ≤ 4077) (hu : U8 data) (kind : Int) (k1 : 1 ≤ kind) (k2 : kind ≤ 4) : ∃ b, wire_framed.f kind data = some b ∧ Msg b := by
  refine ⟨wire_framed.hd kind (19 + (data.length : Int)) ++ data, ?_, kind, data, rfl, k1, k2, h, hu⟩
  unfold wire_framed.f
  rw [if_pos (by omega)]
theorem enc_ev (u0 u1 : List S25) (p m o : Int) (path : List Int) (cs : List S102) (f : Int) (cl : List Int) (h0 : u0.length ≤ 100) (h1 : u1.length ≤ 100) (hp : path.length ≤ 100) (hcs : cs.length ≤ 100) (hcl : cl.length ≤ 100) (k0 : ∀ x ∈ u0, isA x.f0) (k1 : ∀ x ∈ u1, isA x.f0) :
    ∃ (b : List Int) (e : Int), Evt (fun k => wire_Encode.f k u0 u1 p m o path cs f cl) (b, e) ∧ (e = 0 → Msg b) := by
  obtain ⟨q, eq, bq⟩ := may_ev u0 u1 p m o path cs f cl h0 h1 hp hcs hcl k0 k1
  unfold wire_Encode.f
  cases q with
  | false => exact ⟨[], 1, Evt.bind eq (Evt.ite_neg (by simp) (Evt.pure _)), fun h => by cases h⟩
  | true =>
    obtain ⟨l0, l1, lc⟩ := bq rfl
    obtain ⟨w, ew, lw, uw⟩ := pre_ev u0 h0 k0
    obtain ⟨w2, ew2, lw2, uw2⟩ := pre_ev u1 h1 k1
    obtain ⟨b1, eb1, lb1, ub1⟩ := num2 [] (w.length : Int) (by simp) U8.nil
    simp only [List.length_nil, Nat.zero_add] at lb1
    have u1' : U8 (b1 ++ w) := ub1.append uw
    by_cases hn : (u1.length : Int) > 0
    · obtain ⟨hpl, hcsl, hcll⟩ : path.length ≤ 16 ∧ cs.length ≤ 8 ∧ cl.length ≤ 8 := by
        rcases lc with h | h
        · omega
        · exact h
      obtain ⟨a, ea, la, ua⟩ := at_ev p m o path cs f cl hp hcs hcl
      obtain ⟨b2, eb2, lb2, ub2⟩ := num2 (b1 ++ w) (a.length : Int) (by rw [List.length_append]; omega) u1'
      rw [List.length_append] at lb2
      obtain ⟨r, er, mr⟩ := framed_is (b2 ++ a ++ w2) (by rw [List.length_append, List.length_append]; omega) ((ub2.append ua).append uw2) 2 (by omega) (by omega)
      refine ⟨r, 0, Evt.bind eq (Evt.ite_pos rfl (Evt.bind ew (Evt.bind eb1 (Evt.ite_pos (by omega) (Evt.bindc rfl (Evt.ite_pos hn (Evt.bind ea (Evt.bind eb2 (Evt.ite_pos (by omega) (Evt.bindc rfl (Evt.bind ew2 (Evt.ite_pos (by rw [List.length_append]; omega) (Evt.bindc er (Evt.pure _)))))))))))))), fun _ => mr⟩
    · obtain ⟨b2, eb2, lb2, ub2⟩ := num2 (b1 ++ w) 0 (by rw [List.length_append]; omega) u1'
      rw [List.length_append] at lb2
      obtain ⟨r, er, mr⟩ := framed_is (b2 ++ w2) (by rw [List.length_append]; omega) (ub2.append uw2) 2 (by omega) (by omega)
      refine ⟨r, 0, Evt.bind eq (Evt.ite_pos rfl (Evt.bind ew (Evt.bind eb1 (Evt.ite_pos (by omega) (Evt.bindc rfl (Evt.ite_neg hn (Evt.bind eb2 (Evt.bind ew2 (Evt.ite_pos (by omega) (Evt.bindc er (Evt.pure _))))))))))), fun _ => mr⟩
theorem alive_is : ∃ b, wire_Alive.f = some b ∧ Msg b ∧ b.length = 19 := by
  obtain ⟨b, h1, h2⟩ := framed_is [] (by simp) U8.nil 4 (by omega) (by omega)
  refine ⟨b, by unfold wire_Alive.f; rw [h1]; rfl, h2, ?_⟩
  unfold wire_framed.f at h1
  rw [if_pos (by simp)] at h1
  rw [← Option.some.inj h1]
  rfl
end Go.Proofs.Ytjmpojfpbhihpaa.P

end
section
namespace Go.Proofs.Ytjmpojfpbhihpaa
open Go.RowKit Go.Proofs.Ytjmpojfpbhihpaa.P Go.Proofs.YtjmpojfpbhihpaaW.PrintWords Go.Proofs.YtjmpojfpbhihpaaW.PrintLast Go.Proofs.YtjmpojfpbhihpaaW.PrintMore
set_option linter.unusedVariables false
set_option linter.unusedSimpArgs false

theorem cell_keep {X w' : World} (h : Below X.heap.size X w') {p : Addr} {v : Value} (hc : X.cell? p = some v) : w'.cell? p = some v := (h.cell (World.block_lt_of_cell? _ _ hc)).trans hc
set_option maxHeartbeats 8000000 in
set_option maxRecDepth 100000 in
theorem mine_pass (w : World) (A0 A1 A5 A6 A8 : Option Addr) (n0 n1 n5 n6 n8 c0 c1 c5 c6 c8 : Nat) (p m o f : Int) :
    Calls Try.prog 18 #[.agg #[.slice A0 n0 c0, .slice A1 n1 c1, .int .i64 p, .int .i64 m, .int .i64 o, .slice A5 n5 c5, .slice A6 n6 c6, .int .i64 f, .slice A8 n8 c8]] w fun e w' => e = .returned (.agg #[.slice A0 n0 c0, .slice A1 n1 c1, .int .i64 p, .int .i64 m, .int .i64 o, .slice A5 n5 c5, .slice A6 n6 c6, .int .i64 f, .slice A8 n8 c8]) ∧ Below w.heap.size w w' := by
  go_enter Try.func18, Try.ntmps18
  go_wp2
  refine bodyPost_ret (v := .agg #[.slice A0 n0 c0, .slice A1 n1 c1, .int .i64 p, .int .i64 m, .int .i64 o, .slice A5 n5 c5, .slice A6 n6 c6, .int .i64 f, .slice A8 n8 c8]) ?_ rfl ⟨rfl, ?_⟩
  · simp [results, Try.results18, go_sem]
  · exact ((Below.refl w.heap.size w).alloc (Nat.le_refl _) _).alloc (by simp) _
def rd_Lw (xs : List (List Int)) (i : Int) : (List Int) := xs.getD i.toNat ([] : List Int)
theorem at_Lw {w : World} {A : Option Addr} {n : Nat} {xs : List (List Int)} (h : Kd.C (Kd.slice 5 (Kd.int .u8)) w A n xs) (i : Int) (h0 : 0 ≤ i) (h1 : i < n) : ∃ ad A0 c0, A = some ad ∧ w.cell? (ad.add i.toNat) = some (.slice A0 (rd_Lw xs i).length c0) ∧ (rd_Lw xs i).length ≤ c0 ∧ (Kd.int .u8).C w A0 (rd_Lw xs i).length (rd_Lw xs i) := by
  obtain ⟨ad, c, e, _, hK, hc0⟩ := Kd.C_get h ([] : List Int) i h0 h1
  have hc : ∀ j u, c[j]? = some u → w.cell? (ad.add (i.toNat * 1 + j)) = some u := hc0
  obtain ⟨A0, c0, rfl, l0, g0⟩ := hK
  exact ⟨ad, A0, c0, e, by have hq := hc 0 _ rfl; rwa [Nat.mul_one, Nat.add_zero] at hq, l0, g0⟩

theorem flat_len : ∀ (bs : List (List Int)), (∀ b ∈ bs, Msg b) → bs.flatten.length ≤ 4096 * bs.length := by
  intro bs
  induction bs with
  | nil => intro _; simp
  | cons b bs ih =>
    intro h
    have h1 := msg_len (h b (by simp))
    have h2 := ih (fun x hx => h x (by simp [hx]))
    rw [List.flatten_cons, List.length_append, List.length_cons]
    omega
theorem flat_u8 : ∀ (bs : List (List Int)), (∀ b ∈ bs, Msg b) → U8 bs.flatten := by
  intro bs
  induction bs with
  | nil => intro _ x hx; simp at hx
  | cons b bs ih =>
    intro h
    rw [List.flatten_cons]
    exact (msg_u8 (h b (by simp))).append (ih (fun x hx => h x (by simp [hx])))
theorem info9 : (Try.prog.info? 9).map (fun i => (i.zero, i.size, i.bytes)) = some (some (.string ⟨#[]⟩), 1, 16) := by kernel_rfl
def okU (u : S43) : Prop := (∀ x ∈ u.f0, isA x.f0) ∧ (∀ x ∈ u.f1, isA x.f0)
theorem few_is (u : S43) : ∃ q, whirligiglaw10_few.f u.f0 u.f1 u.f2.f0 u.f2.f1 u.f2.f2 u.f2.f3 u.f2.f4 u.f2.f5 u.f2.f6 = some q ∧ (q = true → u.f0.length ≤ 100 ∧ u.f1.length ≤ 100 ∧ u.f2.f3.length ≤ 100 ∧ u.f2.f4.length ≤ 100 ∧ u.f2.f6.length ≤ 100) := by
  unfold whirligiglaw10_few.f whirligigref09_Few.f
  by_cases h1 : (u.f0.length : Int) ≤ 100
  · rw [if_pos h1]
    by_cases h2 : (u.f1.length : Int) ≤ 100
    · rw [if_pos h2]
      by_cases h3 : (u.f2.f3.length : Int) ≤ 100
      · rw [if_pos h3]
        by_cases h4 : (u.f2.f4.length : Int) ≤ 100
        · rw [if_pos h4]
          refine ⟨_, rfl, fun h => ?_⟩
          have h5 : (u.f2.f6.length : Int) ≤ 100 := of_decide_eq_true h
          exact ⟨by omega, by omega, by omega, by omega, by omega⟩
        · rw [if_neg h4]; exact ⟨false, rfl, fun h => by cases h⟩
      · rw [if_neg h3]; exact ⟨false, rfl, fun h => by cases h⟩
    · rw [if_neg h2]; exact ⟨false, rfl, fun h => by cases h⟩
  · rw [if_neg h1]; exact ⟨false, rfl, fun h => by cases h⟩
set_option maxHeartbeats 16000000 in
set_option maxRecDepth 100000 in
theorem splits_calls (w : World) (A0 : Option Addr) (c0 : Nat) (ls : List S43) (cut : Int) (hr0 : Kd.C k43 w A0 ls.length ls) (hc0 : ls.length ≤ c0) (hok : ∀ u ∈ ls, okU u) :
    Calls Try.prog 8 #[.slice A0 ls.length c0, .int .i64 cut] w fun e w' => e = .returned (.bool true) ∧ Below w.heap.size w w' := by
  obtain ⟨kl, hkl⟩ := lives_ev.ex
  have hlv : Hid (∀ wx : World, Calls Try.prog 9 #[] wx fun e w' => e = .returned (.bool true) ∧ Below wx.heap.size wx w') := fun wx => whirligiglaw10_lives.calls kl true wx hkl
  obtain ⟨al, hal, hma, hla⟩ := alive_is
  have HAL : Hid (∀ wx : World, Calls Try.prog 24 #[] wx fun e w' => ∃ v0_ : Value, e = .returned v0_ ∧ Kd.R (Kd.int .u8) 5 w' wx.heap.size (fun _ => True) v0_ al ∧ Below wx.heap.size wx w') := fun wx => wire_Alive.calls al wx hal
  have HMA := mkHid hma
  have HLA := mkHid hla
  have HR0 := mkHid hr0
  have HOK := mkHid hok
  have hmax := Kd.C_max hr0
  clear hkl hal hma hla hr0 hok
  by_cases hbig : 12 < ls.length
  · have hb1 : decide ((12 : Int) < (ls.length : Int)) = true := decide_eq_true (by omega)
    go_enter Try.func8, Try.ntmps8
    go_wp2_with fail
    refine (hlv.out _).mono ?_
    rintro e w1 ⟨rfl, hb⟩
    have HB := mkHid hb
    clear hb
    go_wp2_with fail
    go_ret
    exact ⟨rfl, HB.out⟩
  · have hb1 : decide ((12 : Int) < (ls.length : Int)) = false := decide_eq_false (by omega)
    have hb2 : decide (12 < ls.length) = false := decide_eq_false hbig
    go_enter Try.func8, Try.ntmps8
    go_wp2_with fail
    go_loopg [5, 6, 7] ls.length (fun kq v5 v6 v7 wr => ∃ (i : Nat) (bs : List (List Int)), v7 = .int .i64 i ∧ i ≤ ls.length ∧ i + kq = ls.length ∧ Hid (bs.length = i ∧ ∀ b ∈ bs, Msg b) ∧ Hid (Kd.R (Kd.int .u8) 5 wr w.heap.size (fun _ => True) v5 bs.flatten) ∧ Hid (Kd.R Kd.string 9 wr w.heap.size (fun _ => True) v6 (bs.map strOfNums)) ∧ Hid (Below w.heap.size w wr))
    case atStart => exact ⟨0, [], rfl, by omega, by omega, ⟨rfl, fun b hb => by cases hb⟩, Kd.R_nil _ _ _ _ _, Kd.R_nil _ _ _ _ _, Below.refl _ _⟩
    case round =>
      obtain ⟨i, bs, rfl, hi, hk, HM, HR5, HR6, HB⟩ := hrel
      by_cases hil : i < ls.length
      · obtain ⟨u, hu⟩ : ∃ u, ls[i]? = some u := ⟨_, List.getElem?_eq_getElem (h := hil)⟩
        obtain ⟨ad, B0, d0, B1, d1, B5, d5, B6, d6, B8, d8, hA, x0, x1, x2, x3, x4, x5, x6, x7, x8, l0, g0, l1, g1, l5, g5, l6, g6, l8, g8⟩ := at_T43 (Kd.C_below HR0.out HB.out) (i : Int) (by omega) (by omega)
        have hrd : rd_T43 ls (i : Int) = u := by unfold rd_T43; rw [Int.toNat_natCast, List.getD_eq_getElem?_getD, hu]; rfl
        have hou := HOK.out u (List.mem_of_getElem? hu)
        rw [hrd] at x0 x1 x2 x3 x4 x5 x6 x7 x8 l0 g0 l1 g1 l5 g5 l6 g6 l8 g8
        rw [Int.toNat_natCast] at x0 x1 x2 x3 x4 x5 x6 x7 x8
        cases hA
        obtain ⟨q, hq, hqb⟩ := few_is u
        have hfew := mkHid (whirligiglaw10_few.calls B0 d0 u.f0 B1 d1 u.f1 u.f2.f0 u.f2.f1 u.f2.f2 B5 d5 u.f2.f3 B6 d6 u.f2.f4 u.f2.f5 B8 d8 u.f2.f6 q wr g0 l0 g1 l1 g5 l5 g6 l6 g8 l8 hq)
        have hw : IntKind.i64.wrap ((i : Int) + 1) = ((i + 1 : Nat) : Int) := by rw [IntWalk.i64_in _ (by omega)]; omega
        have HQB := mkHid hqb
        have HOU := mkHid hou
        have G := mkHid (show Kd.C k25 wr B0 u.f0.length u.f0 ∧ Kd.C k25 wr B1 u.f1.length u.f1 ∧ Kd.C (Kd.int .i64) wr B5 u.f2.f3.length u.f2.f3 ∧ Kd.C k102 wr B6 u.f2.f4.length u.f2.f4 ∧ Kd.C (Kd.int .i64) wr B8 u.f2.f6.length u.f2.f6 from ⟨g0, g1, g5, g6, g8⟩)
        have LL := mkHid (show u.f0.length ≤ d0 ∧ u.f1.length ≤ d1 ∧ u.f2.f3.length ≤ d5 ∧ u.f2.f4.length ≤ d6 ∧ u.f2.f6.length ≤ d8 from ⟨l0, l1, l5, l6, l8⟩)
        clear hu hrd hou hq hqb g0 g1 g5 g6 g8 l0 l1 l5 l6 l8
        go_wp2_with fail
        refine hfew.out.mono ?_
        rintro e w2 ⟨rfl, hb2⟩
        have HB2 := mkHid hb2
        replace x0 := cell_keep hb2 x0
        replace x1 := cell_keep hb2 x1
        replace x2 := cell_keep hb2 x2
        replace x3 := cell_keep hb2 x3
        replace x4 := cell_keep hb2 x4
        replace x5 := cell_keep hb2 x5
        replace x6 := cell_keep hb2 x6
        replace x7 := cell_keep hb2 x7
        replace x8 := cell_keep hb2 x8
        clear hb2 hfew
        cases q with
        | false =>
          go_wp2_with fail
          refine (hlv.out _).mono ?_
          rintro e w3 ⟨rfl, hb3⟩
          have HB3 : Hid (Below w.heap.size w w3) := below_step (below_step HB.out HB2.out) hb3
          clear hb3
          go_wp2_with fail
          go_ret
          exact ⟨rfl, HB3.out⟩
        | true =>
          have hqq := HQB.out rfl
          obtain ⟨b, e2, hev, hmb⟩ := enc_ev u.f0 u.f1 u.f2.f0 u.f2.f1 u.f2.f2 u.f2.f3 u.f2.f4 u.f2.f5 u.f2.f6 hqq.1 hqq.2.1 hqq.2.2.1 hqq.2.2.2.1 hqq.2.2.2.2 HOU.out.1 HOU.out.2
          obtain ⟨ke, hke⟩ := hev.ex
          have henc : Hid (∀ wx, Below wr.heap.size wr wx → Calls Try.prog 17 #[.agg #[.slice B0 u.f0.length d0, .slice B1 u.f1.length d1, .int .i64 u.f2.f0, .int .i64 u.f2.f1, .int .i64 u.f2.f2, .slice B5 u.f2.f3.length d5, .slice B6 u.f2.f4.length d6, .int .i64 u.f2.f5, .slice B8 u.f2.f6.length d8]] wx fun e w' => ∃ v0_ : Value, e = .returned (.tuple #[v0_, .int .i64 e2]) ∧ Kd.R (Kd.int .u8) 5 w' wx.heap.size (fun _ => True) v0_ b ∧ Below wx.heap.size wx w') := fun wx hb =>
            wire_Encode.calls ke B0 d0 u.f0 B1 d1 u.f1 u.f2.f0 u.f2.f1 u.f2.f2 B5 d5 u.f2.f3 B6 d6 u.f2.f4 u.f2.f5 B8 d8 u.f2.f6 b e2 wx (Kd.C_below G.out.1 hb) LL.out.1 (Kd.C_below G.out.2.1 hb) LL.out.2.1 (Kd.C_below G.out.2.2.1 hb) LL.out.2.2.1 (Kd.C_below G.out.2.2.2.1 hb) LL.out.2.2.2.1 (Kd.C_below G.out.2.2.2.2 hb) LL.out.2.2.2.2 hke
          have HMBQ := mkHid hmb
          clear hqq hev hke hmb
          go_wp2_with fail
          refine (mine_pass _ B0 B1 B5 B6 B8 _ _ _ _ _ d0 d1 d5 d6 d8 _ _ _ _).mono ?_
          rintro e w3 ⟨rfl, hb3⟩
          have HB3 : Hid (Below wr.heap.size wr w3) := below_step HB2.out hb3
          clear hb3 x0 x1 x2 x3 x4 x5 x6 x7 x8
          go_wp2_with fail
          refine (henc.out _ HB3.out).mono ?_
          rintro e w4 ⟨v8, rfl, hR8, hb4⟩
          have HR8a := mkHid (Kd.R_lower hR8 HB3.out.size)
          have HB4 : Hid (Below wr.heap.size wr w4) := below_step HB3.out hb4
          clear hR8 hb4 henc
          go_upto_if 43 with (fail)
          go_cut [8] (fun v8 wx => ∃ bb : List Int, Hid (Msg bb) ∧ Hid (Kd.R (Kd.int .u8) 5 wx wr.heap.size (fun k => wr.heap.size ≤ k) v8 bb) ∧ Hid (Below wr.heap.size wr wx))
          case first =>
            by_cases he : e2 = 0
            · subst he
              go_wp2_with fail
              go_meet
              exact ⟨b, HMBQ.out (by first | rfl | trivial), Kd.R_mono (Kd.R_bound HR8a.out) (fun k hk => hk.2.1), HB4.out⟩
            · have hn : (e2 == 0) = false := beq_eq_false_iff_ne.mpr he
              have hn2 : (e2 != 0) = true := bne_iff_ne.mpr he
              go_wp2_with fail
              refine (HAL.out _).mono ?_
              rintro e w5 ⟨v9, rfl, hR9, hb5⟩
              have HR9 := mkHid (Kd.R_lower hR9 HB4.out.size)
              have HB5 : Hid (Below wr.heap.size wr w5) := below_step HB4.out hb5
              clear hR9 hb5
              go_wp2_with fail
              go_meet
              exact ⟨al, HMA.out, Kd.R_mono (Kd.R_bound HR9.out) (fun k hk => hk.2.1), HB5.out⟩
          case rest =>
          clear HR8a HB4 HMBQ
          obtain ⟨bb, HMB, HR8, HBr⟩ := hcut
          have hw5 : ∃ w5, w5 = wc := ⟨_, rfl⟩
          obtain ⟨w5, rfl⟩ := hw5
          have HR6x := mkHid (Kd.R_below HR6.out HBr.out)
          have HR5x := mkHid (Kd.R_below HR5.out HBr.out)
          have HBx : Hid (Below w.heap.size w w5) := below_step HB.out HBr.out
          have hmsg := msg_len HMB.out
          have hfl : bs.flatten.length ≤ 4096 * 12 := Nat.le_trans (flat_len bs HM.out.2) (Nat.mul_le_mul_left _ (by have := HM.out.1; omega))
          have hL1 : Hid ((bs.flatten.length + bb.length) * 1 ≤ 140737488355328) := by unfold Hid; omega
          have hS5 : Hid (w.heap.size ≤ w5.heap.size) := HBx.out.size
          have h5lt : Hid (∀ k, u5.ownBlock = some k → k < wr.heap.size) := Kd.R_lt HR5.out
          obtain ⟨A8, c8, hv8⟩ := Kd.R_slice HR8.out
          subst hv8
          obtain ⟨A5, c5, hv5⟩ := Kd.R_slice HR5.out
          obtain ⟨n5, hn5⟩ : ∃ n, n = bs.flatten.length := ⟨_, rfl⟩
          rw [← hn5] at hv5
          subst hv5
          have HN5 := mkHid hn5
          clear hn5 hmsg hfl
          go_upto_region 14 with (at_builtin; refine Kd.R_append_rows (Kd.int .u8) (w0 := w) w.heap.size rfl (.tmp 45) (.tmp 46) 22 5 (.int .u8 0) 1 rfl Try.underlying22 info5 rfl (by decide) (by omega) _ _ bb _ _ _ (fun _ => True) (fun _ => False) rfl rfl HR5x.out (Kd.R_reads' HR8.out).2.2 (fun _ _ h => h) (fun _ h => h.elim) (fun _ _ => trivial) HBx.out hS5.out hL1.out ?_; intro v5n w6 hR hB6 hg hat; have HR5n := mkHid hR; have HB6 := mkHid hB6; have HR6n := mkHid (Kd.R_over' HR6x.out (Kd.R_typed HR5x.out) (by simp [Kd.string, Kd.scalar]) hg); have HR8n := mkHid (Kd.R_grown HR8.out hg (fun k hk he => by have := h5lt.out k he.symm; have hk2 : wr.heap.size ≤ k := hk; omega)); clear hR hB6 hg hat)
          have hcv := Kd.C_string (P := Try.prog) (A := A8) (c := c8) Try.underlying22 Try.underlying5 Try.underlying9 (Kd.R_reads' HR8n.out).2.2
          have hS6 : Hid (w.heap.size ≤ w6.heap.size) := HB6.out.size
          have hL2 : Hid ((bs.map strOfNums).length ≤ 100) := by unfold Hid; rw [List.length_map]; have := HM.out.1; omega
          go_wp2_with (at_builtin; refine Kd.R_append Kd.string (w0 := w) w.heap.size ?a1 (.tmp 48) (.tmp 51) 57 9 (.string ⟨#[]⟩) 16 ?a2 ?a3 ?a4 ?a5 ?a6 ?a7 u6 (bs.map strOfNums) (strOfNums bb) [.string (strOfNums bb)] (fun _ => True) (fun _ => False) ?a8 ?a9 ?aP ?aE ?aF ?aO ?aB ?aS ?aL ?_; (case a1 => rfl); (case a2 => rfl); (case a3 => exact Try.underlying57); (case a4 => exact info9); (case a5 => rfl); (case a6 => decide); (case a7 => omega); (case a8 => rfl); (case a9 => rfl); (case aP => rfl); (case aE => exact fun _ h => h.elim); (case aF => exact fun _ _ => trivial); (case aO => exact HR6n.out); (case aB => exact HB6.out); (case aS => exact hS6.out); (case aL => have := hL2.out; omega); intro v6n w7 hR hB7 hg hat; have HR6z := mkHid hR; have HB7 := mkHid hB7; have HR5z := mkHid (Kd.R_over' HR5n.out (Kd.R_typed HR6n.out) (by simp [Kd.int, Kd.scalar]) hg); clear hR hB7 hg hat hcv)
          go_roundg (gk - 1)
          case measure => omega
          case rel => exact ⟨i + 1, bs ++ [bb], rfl, by omega, by omega, ⟨by rw [List.length_append, HM.out.1]; rfl, fun z hz => (List.mem_append.1 hz).elim (HM.out.2 z) (fun h => by rw [List.mem_singleton.1 h]; exact HMB.out)⟩, by rw [List.flatten_append]; simp; exact HR5z.out, by rw [List.map_append]; exact HR6z.out, HB7.out⟩
      · have hfl : bs.flatten.length ≤ 4096 * 12 := Nat.le_trans (flat_len bs HM.out.2) (Nat.mul_le_mul_left _ (by have := HM.out.1; omega))
        have hbsl : bs.length ≤ 12 := by have := HM.out.1; omega
        obtain ⟨A5, c5, hv5⟩ := Kd.R_slice HR5.out
        obtain ⟨A6, c6, hv6⟩ := Kd.R_slice HR6.out
        rw [List.length_map] at hv6
        obtain ⟨n5, hn5⟩ : ∃ n, n = bs.flatten.length := ⟨_, rfl⟩
        obtain ⟨nb, hnb⟩ : ∃ n, n = bs.length := ⟨_, rfl⟩
        rw [← hn5] at hv5 hfl
        rw [← hnb] at hv6 hbsl
        subst hv5 hv6
        have HN5 := mkHid hn5
        have HNB := mkHid hnb
        clear hn5 hnb
        go_wp2_with fail
        refine (HAL.out _).mono ?_
        rintro e w8 ⟨v11, rfl, hR11, hb8⟩
        have HR5b := mkHid (Kd.R_below HR5.out hb8)
        have HR6b := mkHid (Kd.R_below HR6.out hb8)
        have HB8 := mkHid (below_step HB.out hb8)
        obtain ⟨g, cap, hv11, _, _, _⟩ := Kd.R_form hR11 (by rw [HLA.out]; omega)
        rw [HLA.out] at hv11
        subst hv11
        have hcap : 19 ≤ cap := (Kd.R_reads' hR11).2.1
        have HR11 := mkHid hR11
        clear hR11 hb8 HR5 HR6 HB
        go_upto_region 17 with fail
        go_cut [63] (fun v63 wx => ∃ bb : Bool, v63 = .bool bb ∧ w8 = wx ∧ Hid (bb = true → 0 ≤ cut ∧ cut < 19))
        case first =>
          by_cases h1 : 0 ≤ cut
          · by_cases h2 : cut < 19
            · have f1 : decide (0 ≤ cut) = true := decide_eq_true h1
              have f2 : decide (cut < 19) = true := decide_eq_true h2
              have HH := mkHid (show 0 ≤ cut ∧ cut < 19 from ⟨h1, h2⟩)
              clear h1 h2
              go_wp2_with fail
              go_meet
              exact ⟨true, rfl, rfl, fun _ => HH.out⟩
            · have f1 : decide (0 ≤ cut) = true := decide_eq_true h1
              have f2 : decide (cut < 19) = false := decide_eq_false h2
              clear h1 h2
              go_wp2_with fail
              go_meet
              exact ⟨false, rfl, rfl, fun h => by cases h⟩
          · have f1 : decide (0 ≤ cut) = false := decide_eq_false h1
            clear h1
            go_wp2_with fail
            go_meet
            exact ⟨false, rfl, rfl, fun h => by cases h⟩
        case rest =>
        obtain ⟨bb, rfl, rfl, hbb⟩ := hcut
        go_upto_if 63 with (fail)
        go_cut [5] (fun v5 wx => ∃ tl : List Int, Hid (tl.length < 19 ∧ U8 tl) ∧ Hid (Kd.R (Kd.int .u8) 5 wx w.heap.size (fun _ => True) v5 (bs.flatten ++ tl)) ∧ Hid (Kd.R Kd.string 9 wx w.heap.size (fun _ => True) (.slice A6 nb c6) (bs.map strOfNums)) ∧ Hid (Below w.heap.size w wx))
        case first =>
          cases bb with
          | false =>
            go_wp2_with fail
            go_meet
            exact ⟨[], ⟨by simp, U8.nil⟩, by rw [List.append_nil]; exact HR5b.out, HR6b.out, HB8.out⟩
          | true =>
            obtain ⟨h1, h2⟩ := hbb.out rfl
            obtain ⟨cn, hcn⟩ : ∃ cn : Nat, cut = cn := ⟨cut.toNat, by omega⟩
            subst hcn
            have hcl : cn ≤ cap := by omega
            have HCT : Hid (cn < 19) := by unfold Hid; omega
            have HRT : Hid (Kd.C (Kd.int .u8) w8 (some ⟨g, 0, none⟩) cn (al.take cn)) := by
              have h := (Kd.R_reads' (Kd.R_take HR11.out (m := cn) (by rw [HLA.out]; omega))).2.2
              rw [List.length_take, HLA.out, Nat.min_eq_left (by omega)] at h
              exact h
            have hL1 : Hid ((bs.flatten.length + cn) * 1 ≤ 140737488355328) := by unfold Hid; rw [← HN5.out]; omega
            have hS8 : Hid (w.heap.size ≤ w8.heap.size) := HB8.out.size
            clear hbb h2
            go_wp2_with (at_builtin; refine Kd.R_append_rows (Kd.int .u8) (w0 := w) w.heap.size rfl (.tmp 64) (.tmp 67) 22 5 (.int .u8 0) 1 rfl Try.underlying22 info5 rfl (by decide) (by omega) _ _ (al.take cn) _ _ _ (fun _ => True) (fun _ => False) rfl rfl HR5b.out HRT.out (fun _ _ h => h) (fun _ h => h.elim) (fun _ _ => trivial) HB8.out hS8.out hL1.out ?_; intro v5n w9 hR hB9 hg hat; have HR5n := mkHid hR; have HB9 := mkHid hB9; have HR6n := mkHid (Kd.R_over' HR6b.out (Kd.R_typed HR5b.out) (by simp [Kd.string, Kd.scalar]) hg); clear hR hB9 hg hat)
            go_meet
            exact ⟨al.take cn, ⟨by rw [List.length_take]; have := HCT.out; omega, (msg_u8 HMA.out).take cn⟩, HR5n.out, HR6n.out, HB9.out⟩
        case rest =>
        clear HR5b HR6b HB8 hbb HR11
        obtain ⟨tl, HTL, HR5, HR6, HB⟩ := hcut
        obtain ⟨A5n, c5n, hv5⟩ := Kd.R_slice HR5.out
        have hrow5 := Kd.R_reads' (show Kd.R (Kd.int .u8) 5 wc w.heap.size (fun _ => True) (.slice A5n (bs.flatten ++ tl).length c5n) (bs.flatten ++ tl) by rw [← hv5]; exact HR5.out)
        obtain ⟨n7, hn7⟩ : ∃ n7, n7 = (bs.flatten ++ tl).length := ⟨_, rfl⟩
        obtain ⟨all, hall⟩ : ∃ all, all = bs.flatten ++ tl := ⟨_, rfl⟩
        obtain ⟨ks, hks⟩ := (splits_ev bs tl HTL.out.1 HM.out.2 (by rw [List.length_append, ← HN5.out]; have := HTL.out.1; omega) ((flat_u8 bs HM.out.2).append HTL.out.2) (by rw [← HNB.out]; omega)).ex
        rw [← HN5.out] at hks
        rw [← hall] at hrow5 hks hn7 hv5
        have hspl0 := wire_Split.calls ks A5n c5n all bs (n5 : Int) 0 wc hrow5.2.2 hrow5.2.1 hks
        rw [← hn7] at hspl0 hv5
        subst hv5
        have hspl := mkHid hspl0
        clear hks hspl0 hrow5 hn7 hall HR5
        go_wp2_with fail
        refine hspl.out.mono ?_
        rintro e w10 ⟨v12, rfl, hS, hb10⟩
        have HR6c := mkHid (Kd.R_below HR6.out hb10)
        have HB10 := mkHid (below_step HB.out hb10)
        obtain ⟨A12, c12, hv12⟩ := Kd.S_slice hS
        rw [← HNB.out] at hv12
        subst hv12
        have HS := mkHid hS
        clear hS hb10 hspl HR6 HB
        go_wp2_with fail
        go_loopg [15] nb (fun kq v15 wr => ∃ j : Nat, v15 = .int .i64 j ∧ j ≤ nb ∧ j + kq = nb ∧ Hid (Below w10.heap.size w10 wr))
        case atStart => exact ⟨0, rfl, by omega, by omega, Below.refl _ _⟩
        case round =>
          obtain ⟨j, rfl, hj, hk2, HBr⟩ := hrel
          by_cases hjl : j < nb
          · have hjl2 : j < bs.length := by rw [← HNB.out]; exact hjl
            obtain ⟨b, hb⟩ : ∃ b, bs[j]? = some b := ⟨_, List.getElem?_eq_getElem (h := hjl2)⟩
            obtain ⟨ad, B, d, hA, y0, yl, yc⟩ := at_Lw (Kd.C_below (Kd.S_reads' HS.out).2.2 HBr.out) (j : Int) (by omega) (by omega)
            have hrd : rd_Lw bs (j : Int) = b := by unfold rd_Lw; rw [Int.toNat_natCast, List.getD_eq_getElem?_getD, hb]; rfl
            rw [hrd] at y0 yl yc
            rw [Int.toNat_natCast] at y0
            subst hA
            obtain ⟨g6, o6, hA6, _, hcells⟩ := C_at (Kd.C_below (Kd.R_reads' HR6c.out).2.2 HBr.out) (by decide) (by rw [List.length_map]; omega)
            subst hA6
            obtain ⟨cs, hcl, hcK, hcc⟩ := hcells j (strOfNums b) (by rw [List.getElem?_map, hb]; rfl)
            have hd : wr.cell? ⟨g6, o6 + j, none⟩ = some (.string (strOfNums b)) := by
              obtain rfl : cs = [.string (strOfNums b)] := hcK
              have := hcc 0 _ rfl
              simpa [Kd.string, Kd.scalar] using this
            have hcv := Kd.C_string (P := Try.prog) (A := B) (c := d) Try.underlying22 Try.underlying5 Try.underlying9 yc
            have hcvm := fun m_ : Nat => Kd.C_string (P := Try.prog) (A := B) (c := d) Try.underlying22 Try.underlying5 Try.underlying9 (Kd.C_drewN yc m_)
            have hw : IntKind.i64.wrap ((j : Int) + 1) = ((j + 1 : Nat) : Int) := by rw [IntWalk.i64_in _ (by omega)]; omega
            have HBd : Hid (∀ n, Below w10.heap.size w10 (wr.drewN n)) := fun n => pw_below_drewN HBr.out n
            clear hcells hcl hcK hcc hb hrd yc yl hjl2
            go_wp2_with fail
            go_quiet (fail)
            clear hcv hcvm
            go_wp2_with fail
            go_roundg (gk - 1)
            case measure => omega
            case rel => exact ⟨j + 1, rfl, by omega, by omega, HBd.out _⟩
          · have HBF : Hid (Below w.heap.size w wr) := HB10.out.trans (HBr.out.mono HB10.out.size)
            go_wp2_with fail
            refine (hlv.out _).mono ?_
            rintro e w11 ⟨rfl, hb11⟩
            have HBG := mkHid (below_step HBF.out hb11)
            clear hb11
            go_wp2_with fail
            go_ret
            exact ⟨rfl, HBG.out⟩
end Go.Proofs.Ytjmpojfpbhihpaa

end
section
namespace Go.Proofs.Ytjmpojfpbhihpaa.P
open Go.RowKit Go.Proofs.YtjmpojfpbhihpaaW.PrintWords Go.Proofs.YtjmpojfpbhihpaaW.PrintLast Go.Proofs.YtjmpojfpbhihpaaW.PrintMore
attribute [local go_sem] max2_int min2_int max_two min_two max_three min_three max_four min_four   -- for this text's walks alone
set_option linter.unusedVariables false
set_option linter.unusedSimpArgs false

def whirligiglaw10_WireSplits.f (k : Nat) (l0 : List (S43)) (a1 : Int) : Option (Bool) := if (l0.all fun u => (u.f0.all fun x => decide (0 ≤ x.f0) && decide (x.f0 ≤ 4294967295)) && (u.f1.all fun x => decide (0 ≤ x.f0) && decide (x.f0 ≤ 4294967295))) = true then some true else none
theorem whirligiglaw10_WireSplits.calls (k : Nat) (A0 : Option Addr) (c0 : Nat) (l0 : List (S43)) (a1 : Int) (r : Bool) (w : World) (hr0 : Kd.C k43 w A0 l0.length l0) (hc0 : l0.length ≤ c0) (h : whirligiglaw10_WireSplits.f k l0 a1 = some r) :
    Calls Try.prog 8 #[.slice A0 l0.length c0, .int .i64 a1] w fun e w' => e = .returned (.bool r) ∧ Below w.heap.size w w' := by
  unfold whirligiglaw10_WireSplits.f at h
  split at h
  · rename_i hb
    obtain rfl := Option.some.inj h
    simp only [Bool.and_eq_true, List.all_eq_true, decide_eq_true_eq] at hb
    exact splits_calls w A0 c0 l0 a1 hr0 hc0 (fun u hu => ⟨fun x hx => (hb u hu).1 x hx, fun x hx => (hb u hu).2 x hx⟩)
  · cases h

end Go.Proofs.Ytjmpojfpbhihpaa.P

end
section
set_option linter.unusedVariables false
set_option linter.unusedSimpArgs false
namespace Go.Proofs.Ytjmpojfpbhihpaa
open Go.ChangeShapes Go.WideShapes Go.Proofs.YtjmpojfpbhihpaaW.PrintWords Go.Proofs.YtjmpojfpbhihpaaW.PrintLast Go.Proofs.YtjmpojfpbhihpaaW.PrintMore

/-- the ints of a kind -/
def okI (k : IntKind) (n : Int) : Prop := (Lit.int k n).wf = true
def okL {α : Type} (B : Nat) (ok : α → Prop) (l : List α) : Prop := l.length * B ≤ 140737488351232 ∧ ∀ x, x ∈ l → ok x
theorem okI_u32 {n : Int} (h : okI .u32 n) : 0 ≤ n ∧ n ≤ 4294967295 := by
  unfold okI Lit.wf at h; simp [IntKind.min, IntKind.max, IntKind.bits, IntKind.signed] at h; omega
/-- A reading of a type. -/
structure RV (P : Program) (t : TypeId) (α : Type) (d : Kd α) where
  ok : α → Prop
  sz : P.cellsOf t = d.sz
  opens : ∀ {H : Type} {enc : TypeId × Value → H} {w : World} {base : Nat} {spare : Nat → Bool} {held : Bool} {fuel : Nat} {cs : List Value} {x : DataW H × List MemPlace},
    DataW.trod enc P w base spare held fuel t cs = some x → (x.1.weights P t).all (· ≤ reachBytes) = true → ∃ a, d.K w a cs ∧ ok a
/-- A reading of a stretch of fields. -/
structure RF (P : Program) (fs : List Field) (off : Nat) (α : Type) where
  K : World → α → List Value → Prop
  ok : α → Prop
  opens : ∀ {H : Type} {enc : TypeId × Value → H} {w : World} {base : Nat} {spare : Nat → Bool} {held : Bool} {fuel : Nat} {cs : List Value} {ds : List (DataW H × List MemPlace)}, off ≤ cs.length →
    (∀ f, f ∈ fs → f.offset + P.cellsOf f.type ≤ cs.length) → (∀ (i : Nat) (f : Field), fs[i]? = some f → ∃ y, ds[i]? = some y ∧ DataW.trod enc P w base spare held fuel f.type ((cs.drop f.offset).take (P.cellsOf f.type)) = some y) →
    (DataW.weightsEach P (fs.map (·.type)) (ds.map (·.1))).all (· ≤ reachBytes) = true →
    (fs = [] → cs.length = off) → (∀ f, fs.getLast? = some f → f.offset + P.cellsOf f.type = cs.length) → ∃ a, K w a (cs.drop off) ∧ ok a

section
variable {P : Program} {t e : TypeId} {α β : Type} {d : Kd α}
def rInt (k : IntKind) (ht : P.underlying t = some (.int k)) (hc : P.cellsOf t = 1) : RV P t Int (Kd.int k) where
  ok := okI k
  sz := hc
  opens := fun h _ => by obtain ⟨n, h1, _, h3⟩ := DataW.trod_int ht h; exact ⟨n, h1, h3⟩
theorem RV.list_of_lt {n : Nat} {p : Nat → α → Prop} (h : ∀ i, i < n → ∃ x, p i x) : ∃ l : List α, l.length = n ∧ ∀ i x, l[i]? = some x → p i x := by
  rcases Nat.eq_zero_or_pos n with rfl | hn
  · exact ⟨[], rfl, fun i x hx => by simp at hx⟩
  · haveI : Inhabited α := ⟨Classical.choose (h 0 hn)⟩
    obtain ⟨f, hf⟩ := Go.Deep.choose_lt h
    refine ⟨(List.range n).map f, by simp, fun i x hx => ?_⟩
    have hi : i < n := by have := (List.getElem?_eq_some_iff.1 hx).1; simpa using this
    have e : ((List.range n).map f)[i]? = some (f i) := by simp [hi]
    rw [e] at hx
    cases hx
    exact hf i hi
theorem add_add_ (a : Addr) (p q : Nat) : (a.add p).add q = a.add (p + q) := by
  unfold Addr.add
  by_cases hp : p = 0
  · subst hp; simp
  · by_cases hq : q = 0
    · subst hq; simp [hp]
    · have : p + q ≠ 0 := by omega
      simp [hp, hq, this, Nat.add_assoc]
theorem weights_elem {H : Type} {P : Program} {e : TypeId} {l : List (DataW H)} {B : Nat} (h : (DataW.weightsAll P e l).all (· ≤ B) = true) {x : DataW H} (hx : x ∈ l) : (x.weights P e).all (· ≤ B) = true := by
  induction l with
  | nil => simp at hx
  | cons y l ih =>
    rw [DataW.weightsAll, List.all_append, Bool.and_eq_true] at h
    rcases List.mem_cons.1 hx with rfl | hx
    · exact h.1
    · exact ih h.2 hx
def rSlice {B : Nat} (ht : P.underlying t = some (.slice e)) (hc : P.cellsOf t = 1) (hB : P.bytesOf e = B) (hp : 0 < d.sz) (hB1 : 1 ≤ B) (V : RV P e α d) : RV P t (List α) (Kd.slice e d) where
  ok := okL B V.ok
  sz := hc
  opens := fun {H enc w base spare held fuel cs x} h hw => by
    rcases Go.Deep.open_slice ht h with ⟨h0, _⟩ | ⟨a, len, cap, m, f, D, Pl, h1, hb, hl, hm, hmm, hx, hcc⟩
    · exact ⟨[], ⟨none, 0, h0, Nat.le_refl _, ⟨rfl, by simp, fun h => absurd h (by simp)⟩⟩, by simp [okL]⟩
    · have hlm : len ≤ m := by rw [hmm]; split <;> omega
      have hw' := hw
      rw [hx] at hw'
      simp only [DataW.weights, ht, List.all_cons, List.length_map, List.length_range, Bool.and_eq_true, List.all_append] at hw'
      obtain ⟨w1, w2, _⟩ := hw'
      have w1' : (len + (m - len)) * B ≤ 140737488351232 := by rw [← hB]; exact of_decide_eq_true w1
      have one : ∀ i, i < len → ∃ x, ∃ cs', cs'.length = d.sz ∧ (∀ j u, cs'[j]? = some u → w.cell? (a.add (i * d.sz + j)) = some u) ∧ d.K w x cs' ∧ V.ok x := by
        intro i hi
        obtain ⟨cs', k1, k2⟩ := hcc i (by omega)
        obtain ⟨_, hlen, hcell⟩ := World.cells?_some k1
        have hwi := weights_elem w2 (List.mem_map.2 ⟨i, List.mem_range.2 hi, rfl⟩)
        obtain ⟨y, hy, hok⟩ := V.opens k2 hwi
        rw [V.sz] at hlen hcell
        refine ⟨y, cs', hlen, fun j u hj => ?_, hy, hok⟩
        have hj' : j < d.sz := by have := (List.getElem?_eq_some_iff.1 hj).1; omega
        have := hcell j hj'
        rw [add_add_, hj] at this
        exact this
      obtain ⟨l, hl', hall⟩ := RV.list_of_lt one
      have hlb : len ≤ 9223372036854775807 := by
        have : len * 1 ≤ (len + (m - len)) * B := Nat.mul_le_mul (by omega) hB1
        omega
      refine ⟨l, ⟨some a, cap, by rw [h1, hl'], by omega, ⟨rfl, by omega, fun _ => ⟨a, rfl, fun j p hj => ?_⟩⟩⟩, ?_, ?_⟩
      · obtain ⟨cs', q1, q2, q3, _⟩ := hall j p hj
        exact ⟨cs', q1, q3, q2⟩
      · rw [hl']
        exact Nat.le_trans (Nat.mul_le_mul_right _ (by omega)) w1'
      · intro x hx
        obtain ⟨i, hi⟩ := List.getElem?_of_mem hx
        obtain ⟨_, _, _, _, q⟩ := hall i x hi
        exact q
def fNil (off : Nat) : RF P [] off Unit where
  K := fun _ _ cs => cs = []
  ok := fun _ => True
  opens := fun _ _ _ _ h0 _ => ⟨(), by have := h0 rfl; simp [← this], trivial⟩
def fCons (f : Field) {fs : List Field} {off n : Nat} (ho : f.offset = off) (hn : P.cellsOf f.type = n) {d : Kd α} (V : RV P f.type α d) (F : RF P fs (off + n) β) : RF P (f :: fs) off (α × β) where
  K := fun w x cs => ∃ c c', cs = c ++ c' ∧ d.K w x.1 c ∧ F.K w x.2 c'
  ok := fun x => V.ok x.1 ∧ F.ok x.2
  opens := fun {H enc w base spare held fuel cs ds} hoff hle hy hw h0 hlast => by
    obtain ⟨y, hy1, hy0⟩ := hy 0 f rfl
    obtain ⟨ds, rfl⟩ : ∃ l, ds = y :: l := by
      cases ds with
      | nil => simp at hy1
      | cons z l => simp at hy1; subst hy1; exact ⟨l, rfl⟩
    rw [List.map_cons, List.map_cons, DataW.weightsEach, List.all_append, Bool.and_eq_true] at hw
    obtain ⟨a, ha, hka⟩ := V.opens hy0 hw.1
    have hl0 := hle f (by simp)
    rw [ho, hn] at hl0
    obtain ⟨b, hb, hkb⟩ := F.opens (cs := cs) (ds := ds) hl0 (fun g hg => hle g (by simp [hg])) (fun i g hg => hy (i + 1) g hg) hw.2 (fun h => by subst h; have := hlast f (by simp); rw [ho, hn] at this; exact this.symm)
      (fun g hg => hlast g (by cases fs with | nil => simp at hg | cons z zs => rw [List.getLast?_cons_cons]; exact hg))
    refine ⟨(a, b), ⟨(cs.drop off).take n, cs.drop (off + n), ?_, ?_, hb⟩, hka, hkb⟩
    · rw [← List.drop_drop, List.take_append_drop]
    · rw [ho, hn] at ha; exact ha
/-- the struct's cells end with its last field's -/
def fitsB (P : Program) (t : TypeId) (fs : List Field) : Bool := fs.all (fun f => decide (f.offset + P.cellsOf f.type ≤ P.cellsOf t)) && (match fs.getLast? with | some f => f.offset + P.cellsOf f.type == P.cellsOf t | none => P.cellsOf t == 0)
def rStruct {fs : Array Field} (ht : P.underlying t = some (.struct fs)) (hf : fitsB P t fs.toList = true) {d : Kd β} (hc : P.cellsOf t = d.sz) (F : RF P fs.toList 0 α) (f : α → β) (hK : ∀ w x cs, F.K w x cs → d.K w (f x) cs) (ok : β → Prop) (hok : ∀ x, F.ok x → ok (f x)) : RV P t β d where
  ok := ok
  sz := hc
  opens := fun {H enc w base spare held fuel cs x} h hw => by
    obtain ⟨xs, n, _, rfl, hl, hxl, hx⟩ := DataW.trod_struct ht h
    unfold fitsB at hf
    rw [Bool.and_eq_true] at hf
    obtain ⟨f1, f2⟩ := hf
    simp only [DataW.weights, ht] at hw
    obtain ⟨a, ha, hka⟩ := F.opens (enc := enc) (w := w) (base := base) (spare := spare) (held := held) (fuel := n) (cs := cs) (ds := xs) (Nat.zero_le _)
      (fun f hf => by rw [hl]; exact of_decide_eq_true (List.all_eq_true.1 f1 f hf))
      (fun i f hi => by
        have hi' : fs[i]? = some f := by rw [← Array.getElem?_toList]; exact hi
        have hlt : i < fs.size := by
          have := (List.getElem?_eq_some_iff.1 hi).1
          simpa using this
        have z := hx i f hi'
        rw [z]
        exact ⟨_, List.getElem?_eq_getElem (by omega), List.getElem?_eq_getElem (by omega)⟩)
      hw
      (fun h0 => by rw [h0] at f2; simp at f2; rw [hl]; exact f2)
      (fun f hf => by rw [hf] at f2; simp at f2; rw [hl]; exact f2)
    exact ⟨f a, hK _ _ _ (by simpa using ha), hok a hka⟩
end
end Go.Proofs.Ytjmpojfpbhihpaa

end
section
namespace Go.Proofs.Ytjmpojfpbhihpaa.P
open Go.Proofs.YtjmpojfpbhihpaaW.PrintWords Go.Proofs.YtjmpojfpbhihpaaW.PrintLast Go.Proofs.YtjmpojfpbhihpaaW.PrintMore
set_option linter.unusedVariables false
def r23 : RV Try.prog 23 Int (Kd.int .u32) := rInt .u32 Try.underlying23 (by kernel_rfl)
def r3 : RV Try.prog 3 Int (Kd.int .i64) := rInt .i64 Try.underlying3 (by kernel_rfl)
def ok25 (x : S25) : Prop := (okI .u32) x.f0 ∧ (okI .i64) x.f1
def r25 : RV Try.prog 25 S25 k25 := rStruct Try.underlying25 (by kernel_rfl) (by kernel_rfl) (fCons (n := 1) _ rfl (by kernel_rfl) r23 (fCons (n := 1) _ rfl (by kernel_rfl) r3 (fNil _))) (fun x => ⟨x.1, x.2.1⟩) (by rintro w x cs ⟨c0, _, rfl, h0, c1, _, rfl, h1, rfl⟩; exact ⟨c0, _, rfl, h0, (by rw [List.append_nil]; exact h1)⟩) ok25 (fun x h => ⟨h.1, h.2.1⟩)
def r37 : RV Try.prog 37 (List (S25)) (Kd.slice 25 k25) := rSlice (B := 16) Try.underlying37 (by kernel_rfl) (by kernel_rfl) (by decide) (by decide) r25
def r38 : RV Try.prog 38 (List (Int)) (Kd.slice 3 (Kd.int .i64)) := rSlice (B := 8) Try.underlying38 (by kernel_rfl) (by kernel_rfl) (by decide) (by decide) r3
def ok102 (x : S102) : Prop := (okI .i64) x.f0 ∧ (okI .i64) x.f1
def r102 : RV Try.prog 102 S102 k102 := rStruct Try.underlying102 (by kernel_rfl) (by kernel_rfl) (fCons (n := 1) _ rfl (by kernel_rfl) r3 (fCons (n := 1) _ rfl (by kernel_rfl) r3 (fNil _))) (fun x => ⟨x.1, x.2.1⟩) (by rintro w x cs ⟨c0, _, rfl, h0, c1, _, rfl, h1, rfl⟩; exact ⟨c0, _, rfl, h0, (by rw [List.append_nil]; exact h1)⟩) ok102 (fun x h => ⟨h.1, h.2.1⟩)
def r39 : RV Try.prog 39 (List (S102)) (Kd.slice 102 k102) := rSlice (B := 16) Try.underlying39 (by kernel_rfl) (by kernel_rfl) (by decide) (by decide) r102
def ok41 (x : S41) : Prop := (okI .i64) x.f0 ∧ (okI .i64) x.f1 ∧ (okI .i64) x.f2 ∧ (okL 8 (okI .i64)) x.f3 ∧ (okL 16 (ok102)) x.f4 ∧ (okI .i64) x.f5 ∧ (okL 8 (okI .i64)) x.f6
def r41 : RV Try.prog 41 S41 k41 := rStruct Try.underlying41 (by kernel_rfl) (by kernel_rfl) (fCons (n := 1) _ rfl (by kernel_rfl) r3 (fCons (n := 1) _ rfl (by kernel_rfl) r3 (fCons (n := 1) _ rfl (by kernel_rfl) r3 (fCons (n := 1) _ rfl (by kernel_rfl) r38 (fCons (n := 1) _ rfl (by kernel_rfl) r39 (fCons (n := 1) _ rfl (by kernel_rfl) r3 (fCons (n := 1) _ rfl (by kernel_rfl) r38 (fNil _)))))))) (fun x => ⟨x.1, x.2.1, x.2.2.1, x.2.2.2.1, x.2.2.2.2.1, x.2.2.2.2.2.1, x.2.2.2.2.2.2.1⟩) (by rintro w x cs ⟨c0, _, rfl, h0, c1, _, rfl, h1, c2, _, rfl, h2, c3, _, rfl, h3, c4, _, rfl, h4, c5, _, rfl, h5, c6, _, rfl, h6, rfl⟩; exact ⟨c0, _, rfl, h0, ⟨c1, _, rfl, h1, ⟨c2, _, rfl, h2, ⟨c3, _, rfl, h3, ⟨c4, _, rfl, h4, ⟨c5, _, rfl, h5, (by rw [List.append_nil]; exact h6)⟩⟩⟩⟩⟩⟩) ok41 (fun x h => ⟨h.1, h.2.1, h.2.2.1, h.2.2.2.1, h.2.2.2.2.1, h.2.2.2.2.2.1, h.2.2.2.2.2.2.1⟩)
def ok43 (x : S43) : Prop := (okL 16 (ok25)) x.f0 ∧ (okL 16 (ok25)) x.f1 ∧ (ok41) x.f2
def r43 : RV Try.prog 43 S43 k43 := rStruct Try.underlying43 (by kernel_rfl) (by kernel_rfl) (fCons (n := 1) _ rfl (by kernel_rfl) r37 (fCons (n := 1) _ rfl (by kernel_rfl) r37 (fCons (n := 7) _ rfl (by kernel_rfl) r41 (fNil _)))) (fun x => ⟨x.1, x.2.1, x.2.2.1⟩) (by rintro w x cs ⟨c0, _, rfl, h0, c1, _, rfl, h1, c2, _, rfl, h2, rfl⟩; exact ⟨c0, _, rfl, h0, ⟨c1, _, rfl, h1, (by rw [List.append_nil]; exact h2)⟩⟩) ok43 (fun x h => ⟨h.1, h.2.1, h.2.2.1⟩)
def r56 : RV Try.prog 56 (List (S43)) (Kd.slice 43 k43) := rSlice (B := 152) Try.underlying56 (by kernel_rfl) (by kernel_rfl) (by decide) (by decide) r43
end Go.Proofs.Ytjmpojfpbhihpaa.P

end
section
namespace Go.Proofs.Ytjmpojfpbhihpaa.Pure
open Go.RowKit Go.Proofs.Ytjmpojfpbhihpaa.P Go.Proofs.YtjmpojfpbhihpaaW.PrintWords Go.Proofs.YtjmpojfpbhihpaaW.PrintLast Go.Proofs.YtjmpojfpbhihpaaW.PrintMore
set_option linter.unusedVariables false

theorem WireSplits (x0 : List (S43)) (x1 : Int) (ok_0 : (okL 152 (ok43)) x0) (ok_1 : (okI .i64) x1) : ∃ k, Go.Proofs.Ytjmpojfpbhihpaa.P.whirligiglaw10_WireSplits.f k x0 x1 = some true := by
  have h : whirligiglaw10_WireSplits.f 0 x0 x1 = some true := by
    unfold whirligiglaw10_WireSplits.f
    refine if_pos ?_
    simp only [Bool.and_eq_true, List.all_eq_true, decide_eq_true_eq]
    exact fun u hu => ⟨fun x hx => okI_u32 ((ok_0.2 u hu).1.2 x hx).1, fun x hx => okI_u32 ((ok_0.2 u hu).2.1.2 x hx).1⟩
  exact ⟨0, h⟩
end Go.Proofs.Ytjmpojfpbhihpaa.Pure

end
