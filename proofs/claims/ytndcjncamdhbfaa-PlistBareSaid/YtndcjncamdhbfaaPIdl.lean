/- plist.idle: a rule is idle just if it is the first that is met by no prefix. -/
import Derived.Test.YtndcjncamdhbfaaPSmp
import Derived.Test.YtndcjncamdhbfaaPx0
import Derived.Test.YtndcjncamdhbfaaPx15
namespace Go.Proofs.Ytndcjncamdhbfaa.P
open Go.RowKit Go.Proofs.YtndcjncamdhbfaaW.PrintWords Go.Proofs.YtndcjncamdhbfaaW.PrintLast Go.Proofs.YtndcjncamdhbfaaW.PrintMore
set_option linter.unusedVariables false
set_option linter.unusedSimpArgs false

def hitB (l : List S26) (n : Int) (x : S24) : Bool := decide (firL l x.f0 x.f1 = n)
def idB (l : List S26) (n : Int) : Nat → Int → Bool
  | 0, _ => true
  | d + 1, b => if (smpS l b).any (hitB l n) then false else idB l n d (b + 1)
theorem idB_iff (l : List S26) (n : Int) : ∀ (d : Nat) (b : Int), idB l n d b = true ↔ ∀ b', b ≤ b' → b' < b + d → ∀ x ∈ smpS l b', firL l x.f0 x.f1 ≠ n := by
  intro d
  induction d with
  | zero => intro b; simp only [idB]; exact ⟨fun _ b' h1 h2 => by omega, fun _ => trivial⟩
  | succ d ih =>
    intro b
    simp only [idB]
    by_cases h : (smpS l b).any (hitB l n) = true
    · rw [if_pos h]
      obtain ⟨x, hx, hh⟩ := List.any_eq_true.1 h
      refine ⟨fun e => absurd e (by simp), fun hall => absurd (of_decide_eq_true hh) (hall b (Int.le_refl _) (by omega) x hx)⟩
    · rw [if_neg h, ih]
      constructor
      · intro hall b' h1 h2 x hx
        by_cases e : b' = b
        · subst e
          intro hh
          exact h (List.any_eq_true.2 ⟨x, hx, decide_eq_true hh⟩)
        · exact hall b' (by omega) (by omega) x hx
      · intro hall b' h1 h2
        exact hall b' (by omega) (by omega)
theorem rdP_at {l : List S24} {i : Nat} {x : S24} (h : l[i]? = some x) : rd_T24 l (i : Int) = x := by
  unfold rd_T24
  rw [show ((i : Int)).toNat = i by omega, List.getD_eq_getElem?_getD, h]; rfl
theorem idle1_ev (l : List S26) (n b : Int) (S : List S24) (R : Bool) (ho : ∀ r ∈ l, inR r) (hS : ∀ x ∈ S, isA x.f0) (hl : S.length ≤ 1000) (hR : Evt (fun k => plist_idle.l0 k l n (wrap64 (b + 1))) R) :
    ∀ (d : Nat) (i : Nat), S.length - i = d → i ≤ S.length → Evt (fun k => plist_idle.l1 k l n b S (S.length : Int) (i : Int)) (if (S.drop i).any (hitB l n) then false else R) := by
  intro d
  induction d with
  | zero =>
    intro i hd hi
    refine Evt.step ?_
    simp only [plist_idle.l1]
    refine Evt.ite_neg (by omega) ?_
    rw [List.drop_eq_nil_of_le (by omega), if_neg (by simp)]
    exact hR
  | succ d ih =>
    intro i hd hi
    refine Evt.step ?_
    simp only [plist_idle.l1]
    obtain ⟨x, hx, he, hdr⟩ := drop_at (l := S) (i := i) (by omega)
    refine Evt.ite_pos (by omega) (Evt.ite_pos (by omega) (Evt.ite_pos (by omega) ?_))
    rw [rdP_at he, hdr, List.any_cons]
    refine Evt.bindc (first_is l x.f0 x.f1 ho (hS x hx)) ?_
    by_cases h : firL l x.f0 x.f1 = n
    · refine Evt.ite_pos h (Evt.of fun k => ?_)
      rw [show hitB l n x = true from decide_eq_true h, Bool.true_or, if_pos rfl]
    · refine Evt.ite_neg h ?_
      rw [show hitB l n x = false from decide_eq_false h, Bool.false_or, wrap64_in _ (by omega) (by omega)]
      exact ih (i + 1) (by omega) (by omega)
theorem idle0_ev (l : List S26) (n : Nat) (r : S26) (ho : ∀ r ∈ l, inR r) (hr : ∀ r ∈ l, rB r = true) (hl : l.length ≤ 16) (hn : l[n]? = some r) :
    ∀ (d : Nat) (b : Int), (r.f2 + 1 - b).toNat = d → 0 ≤ b → Evt (fun k => plist_idle.l0 k l (n : Int) b) (idB l n d b) := by
  have hnl : n < l.length := (List.getElem?_eq_some_iff.1 hn).1
  have hrb := rB_parts (hr r (List.mem_of_getElem? hn))
  intro d
  induction d with
  | zero =>
    intro b hd b0
    refine Evt.step ?_
    simp only [plist_idle.l0]
    refine Evt.ite_pos (by omega) (Evt.ite_pos (by omega) ?_)
    rw [rdR_at hn]
    exact Evt.ite_neg (by omega) (Evt.of fun k => rfl)
  | succ d ih =>
    intro b hd b0
    refine Evt.step ?_
    simp only [plist_idle.l0]
    refine Evt.ite_pos (by omega) (Evt.ite_pos (by omega) ?_)
    rw [rdR_at hn]
    have b1 : b ≤ 32 := by omega
    refine Evt.ite_pos (by omega) (Evt.bindc (samples_is l b b0 b1 (by omega) ho hr) ?_)
    have hw : wrap64 (b + 1) = b + 1 := wrap64_in _ (by omega) (by omega)
    have h0 := ih (b + 1) (by omega) (by omega)
    have := idle1_ev l (n : Int) b (smpS l b) (idB l n d (b + 1)) ho (fun x hx => (smpS_ok b0 b1 ho hr hx).1) (by have := smpS_len l b; omega) (by rw [hw]; exact h0) (smpS l b).length 0 (by omega) (by omega)
    exact this
/-- is the last rule idle? -/
def idlL (l : List S26) : Bool := match l[l.length - 1]? with
  | some r => idB l ((l.length - 1 : Nat) : Int) (r.f2 + 1 - r.f1).toNat r.f1
  | none => true
theorem idle_ev (l : List S26) (ho : ∀ r ∈ l, inR r) (hr : ∀ r ∈ l, rB r = true) (hl : l.length ≤ 16) (h0 : 0 < l.length) : Evt (fun k => plist_idle.f k l) (idlL l) := by
  unfold plist_idle.f idlL
  have hw : wrap64 ((l.length : Int) - 1) = ((l.length - 1 : Nat) : Int) := by rw [wrap64_in _ (by omega) (by omega)]; omega
  rw [hw]
  obtain ⟨r, he⟩ : ∃ r, l[l.length - 1]? = some r := ⟨_, List.getElem?_eq_getElem (h := by omega)⟩
  rw [he, rdR_at he]
  have hrb := rB_parts (hr r (List.mem_of_getElem? he))
  have := (mayB_iff _ _).1 hrb.1
  exact Evt.ite_pos (by omega) (Evt.ite_pos (by omega) (idle0_ev l (l.length - 1) r ho hr hl he _ r.f1 rfl (by omega)))
theorem idlL_iff (l : List S26) (ho : ∀ r ∈ l, inR r) (hr : ∀ r ∈ l, rB r = true) (h0 : 0 < l.length) : idlL l = true ↔ ∀ c d, isA c → mayB c d = true → firL l c d ≠ ((l.length - 1 : Nat) : Int) := by
  obtain ⟨r, he⟩ : ∃ r, l[l.length - 1]? = some r := ⟨_, List.getElem?_eq_getElem (h := by omega)⟩
  have hrm := List.mem_of_getElem? he
  have hrb := rB_parts (hr r hrm)
  have hg0 := (mayB_iff _ _).1 hrb.1
  unfold idlL
  rw [he]
  show idB l _ _ _ = true ↔ _
  rw [idB_iff]
  constructor
  · intro hall c d hc hm hf
    obtain ⟨y, hy, _, hmy⟩ := firL_at l c d (by omega)
    rw [hf, show (((l.length - 1 : Nat) : Int)).toNat = l.length - 1 by omega, he] at hy
    cases hy
    obtain ⟨_, _, _, k1, k2⟩ := (mB_iff c d r (hr r hrm)).1 hmy
    obtain ⟨x, hx, _, hxA, hxM, hlike⟩ := sample_like l ho hr c d hc hm
    refine hall d k1 (by omega) ⟨x, d⟩ ((mem_smpS l d _).2 hx) ?_
    show firL l x d = _
    rw [firL_congr hlike, hf]
  · intro hall b' h1 h2 x hx
    obtain ⟨k1, k2, k3⟩ := smpS_ok (b := b') (by omega) (by omega) ho hr hx
    exact hall x.f0 x.f1 k1 k2
end Go.Proofs.Ytndcjncamdhbfaa.P
