/- Part of the proof of RowAttrOwn: what it asks of functions, words and plain facts (put together by this session's own program, wip/tools/shake.py). -/
import Derived.Test.YtnnlbofmlfafhaaZAttrOwn0
import Derived.Test.YtnnlbofmlfafhaaZAttrOwn1
import Derived.Test.YtnnlbofmlfafhaaZAttrOwn2
import Derived.Test.YtnnlbofmlfafhaaZAttrOwn3
import Derived.Test.YtnnlbofmlfafhaaZAttrOwn4
import Derived.Test.YtnnlbofmlfafhaaZAttrOwn5
section
namespace Go.Proofs.Ytnnlbofmlfafhaa.P
open Go.RowKit Go.Proofs.YtnnlbofmlfafhaaW.PrintWords Go.Proofs.YtnnlbofmlfafhaaW.PrintLast Go.Proofs.YtnnlbofmlfafhaaW.PrintMore
set_option linter.unusedVariables false
set_option linter.unusedSimpArgs false

theorem pat {α : Type} {l : List α} {i : Nat} (h : i < l.length) : ∃ x, x ∈ l ∧ l[i]? = some x ∧ l.drop i = x :: l.drop (i + 1) :=
  ⟨l[i], List.getElem_mem h, List.getElem?_eq_getElem h, List.drop_eq_getElem_cons h⟩
theorem rd_at {l : List Int} {i : Nat} {x : Int} (h : l[i]? = some x) : rd l (i : Int) = x := by
  unfold rd
  rw [Int.toNat_natCast, List.getD_eq_getElem?_getD, h]; rfl
theorem rdC_at {l : List S63} {i : Nat} {x : S63} (h : l[i]? = some x) : rd_T63 l (i : Int) = x := by
  unfold rd_T63
  rw [Int.toNat_natCast, List.getD_eq_getElem?_getD, h]; rfl

def mayCB (a b : Int) : Bool := decide (1 ≤ a) && (decide (a ≤ 65535) && (decide (0 ≤ b) && decide (b ≤ 65535)))
theorem commMay_is (a b : Int) : comm_May.f a b = some (mayCB a b) := by
  unfold comm_May.f mayCB
  by_cases h1 : a ≥ 1
  · rw [if_pos h1]
    by_cases h2 : a ≤ 65535
    · rw [if_pos h2]
      by_cases h3 : b ≥ 0
      · rw [if_pos h3]; simp [h1, h2, h3]
      · rw [if_neg h3]; simp [h3]
    · rw [if_neg h2]; simp [h2]
  · rw [if_neg h1]; simp [h1]
def stepsB (p : Option S63) : List S63 → Bool
  | [] => true
  | x :: l => mayCB x.f0 x.f1 && ((match p with | none => true | some q => decide (ordC q x < 0)) && stepsB (some x) l)
/-- the one ahead of the i-th -/
def prevC (l : List S63) (i : Nat) : Option S63 := if i = 0 then none else l[i - 1]?
theorem prevC_succ (l : List S63) (i : Nat) : prevC l (i + 1) = l[i]? := by unfold prevC; rw [if_neg (by omega)]; rfl
def setB (l : List S63) : Bool := decide (l.length ≤ 8) && stepsB none l
theorem commOrder_ev (x y : S63) : Evt (fun k => comm_order.f k x.f0 x.f1 y.f0 y.f1) (ordC x y) := Evt.of_mono (fun k => comm_order.mono _ _ _ _ k) (ordC_is x y)
theorem commSetL_ev : ∀ (d : Nat) (l : List S63) (i : Nat), l.length ≤ 1000000 → l.length - i = d → i ≤ l.length → Evt (fun k => comm_Set.l0 k l l (l.length : Int) (i : Int)) (stepsB (prevC l i) (l.drop i)) := by
  intro d
  induction d with
  | zero =>
    intro l i hl hd hi
    refine Evt.step ?_
    simp only [comm_Set.l0]
    refine Evt.ite_neg (by omega) (Evt.of fun k => ?_)
    rw [List.drop_eq_nil_of_le (by omega)]; rfl
  | succ d ih =>
    intro l i hl hd hi
    refine Evt.step ?_
    simp only [comm_Set.l0]
    obtain ⟨x, hx, he, hdr⟩ := pat (l := l) (i := i) (by omega)
    refine Evt.ite_pos (by omega) (Evt.ite_pos (by omega) (Evt.ite_pos (by omega) ?_))
    have hn := ih l (i + 1) hl (by omega) (by omega)
    rw [prevC_succ, he] at hn
    rw [rdC_at he, hdr]
    refine Evt.bindc (commMay_is _ _) ?_
    simp only [stepsB]
    by_cases hb : mayCB x.f0 x.f1 = true
    · refine Evt.ite_pos hb ?_
      rw [hb, Bool.true_and, wrap64_in ((i : Int) + 1) (by omega) (by omega)]
      by_cases h0 : i = 0
      · subst h0
        refine Evt.ite_neg (by simp) ?_
        exact hn
      · obtain ⟨q, hq, hqe, _⟩ := pat (l := l) (i := i - 1) (by omega)
        have hp : prevC l i = some q := by unfold prevC; rw [if_neg h0, hqe]
        rw [hp, wrap64_in ((i : Int) - 1) (by omega) (by omega), show ((i : Int) - 1) = ((i - 1 : Nat) : Int) by omega]
        refine Evt.ite_pos (by omega) (Evt.ite_pos (by omega) (Evt.ite_pos (by omega) ?_))
        rw [rdC_at hqe]
        refine Evt.bind (commOrder_ev q x) ?_
        by_cases hc : ordC q x < 0
        · refine Evt.ite_neg (by omega) ?_
          simp only [hc, decide_true, Bool.true_and]
          exact hn
        · refine Evt.ite_pos (by omega) (Evt.of fun k => ?_)
          simp [hc]
    · refine Evt.ite_neg hb (Evt.of fun k => ?_)
      rw [Bool.eq_false_iff.mpr hb]; rfl
theorem commSet_ev (l : List S63) (hl : l.length ≤ 1000000) : Evt (fun k => comm_Set.f k l) (setB l) := by
  unfold comm_Set.f setB
  by_cases h : l.length ≤ 8
  · rw [decide_eq_true h, Bool.true_and]
    exact Evt.ite_neg (by omega) (commSetL_ev l.length l 0 hl (by omega) (by omega))
  · rw [decide_eq_false h]
    exact Evt.ite_pos (by omega) (Evt.pure _)
theorem take_at {α : Type} {l : List α} {i : Nat} {x : α} (h : l[i]? = some x) : l.take (i + 1) = l.take i ++ [x] := by rw [List.take_add_one, h]; rfl
theorem mayCB_iff {a b : Int} : mayCB a b = true ↔ 1 ≤ a ∧ a ≤ 65535 ∧ 0 ≤ b ∧ b ≤ 65535 := by simp [mayCB]
theorem steps_may : ∀ (l : List S63) (p : Option S63), stepsB p l = true → ∀ x, x ∈ l → mayCB x.f0 x.f1 = true := by
  intro l
  induction l with
  | nil => intro p _ x hx; simp at hx
  | cons y l ih =>
    intro p h x hx
    simp only [stepsB, Bool.and_eq_true] at h
    rcases List.mem_cons.1 hx with rfl | hx
    · exact h.1
    · exact ih _ h.2.2 x hx
theorem setB_iff {l : List S63} (h : setB l = true) : l.length ≤ 8 ∧ ∀ x, x ∈ l → mayCB x.f0 x.f1 = true := by
  simp only [setB, Bool.and_eq_true, decide_eq_true_eq] at h
  exact ⟨h.1, steps_may l none h.2⟩
end Go.Proofs.Ytnnlbofmlfafhaa.P

end
section
namespace Go.Proofs.Ytnnlbofmlfafhaa.P
open Go.RowKit Go.Proofs.YtnnlbofmlfafhaaW.PrintWords Go.Proofs.YtnnlbofmlfafhaaW.PrintLast Go.Proofs.YtnnlbofmlfafhaaW.PrintMore
set_option linter.unusedVariables false
set_option linter.unusedSimpArgs false

/-- in order, each one once -/
def SS (l : List S63) : Prop := l.Pairwise fun a b => ordC a b < 0
theorem ordC_lt_ne {a b : S63} (h : ordC a b < 0) : a ≠ b := by
  rintro rfl
  have := ordC_ord.self a
  omega
theorem SS.ext : ∀ {a b : List S63}, SS a → SS b → (∀ x, x ∈ a ↔ x ∈ b) → a = b := by
  intro a
  induction a with
  | nil =>
    intro b _ _ h
    cases b with
    | nil => rfl
    | cons y b => exact absurd ((h y).2 (by simp)) (by simp)
  | cons x a ih =>
    intro b ha hb h
    cases b with
    | nil => exact absurd ((h x).1 (by simp)) (by simp)
    | cons y b =>
      obtain ⟨ha1, ha2⟩ := List.pairwise_cons.1 ha
      obtain ⟨hb1, hb2⟩ := List.pairwise_cons.1 hb
      have hxy : x = y := by
        rcases List.mem_cons.1 ((h x).1 (by simp)) with e | e
        · exact e
        · rcases List.mem_cons.1 ((h y).2 (by simp)) with e2 | e2
          · exact e2.symm
          · have h1 := hb1 x e
            have h2 := ha1 y e2
            have := ordC_ord.1 x y
            omega
      subst hxy
      refine congrArg (x :: ·) (ih ha2 hb2 fun z => ?_)
      constructor
      · intro hz
        rcases List.mem_cons.1 ((h z).1 (by simp [hz])) with e | e
        · exact absurd e.symm (ordC_lt_ne (ha1 z hz))
        · exact e
      · intro hz
        rcases List.mem_cons.1 ((h z).2 (by simp [hz])) with e | e
        · exact absurd e.symm (ordC_lt_ne (hb1 z hz))
        · exact e
theorem SS.filter {l : List S63} (h : SS l) (p : S63 → Bool) : SS (l.filter p) := List.Pairwise.filter p h
end Go.Proofs.Ytnnlbofmlfafhaa.P

end
section
namespace Go.Proofs.Ytnnlbofmlfafhaa.P
open Go.RowKit Go.Proofs.YtnnlbofmlfafhaaW.PrintWords Go.Proofs.YtnnlbofmlfafhaaW.PrintLast Go.Proofs.YtnnlbofmlfafhaaW.PrintMore
set_option linter.unusedVariables false
set_option linter.unusedSimpArgs false

def delR (l0 l1 : List S63) : List S63 × Int := if setB l0 = true then (l0.filter (fun x => !inC l1 x), 0) else ([], 1)
theorem del_ev (l0 l1 : List S63) (h : l0.length ≤ 1000) : Evt (fun k => comm_Del.f k l0 l1) (delR l0 l1) := by
  unfold comm_Del.f delR
  refine Evt.bind (commSet_ev l0 (by omega)) ?_
  by_cases e : setB l0 = true
  · rw [if_pos e, if_pos e]; exact Evt.ite_pos (by omega) (Evt.pure _)
  · rw [if_neg e, if_neg e]; exact Evt.pure _
def mayC (x : S63) : Bool := mayCB x.f0 x.f1
def addR (l m : List S63) : List S63 × Int :=
  if setB l = true then (if m.all mayC = true then (if 8 < (dd eqC (sortC (l ++ m))).length then ([], 2) else (dd eqC (sortC (l ++ m)), 0)) else ([], 1)) else ([], 1)
theorem add_ev (l m : List S63) (hl : l.length ≤ 1000) (hm : m.length ≤ 1000) : Evt (fun k => comm_Add.f k l m) (addR l m) := by
  unfold comm_Add.f addR
  refine Evt.bind (commSet_ev l (by omega)) ?_
  by_cases e : setB l = true
  · refine Evt.ite_pos e ?_
    rw [if_pos e]
    have ea : (m.any fun c => !comm_Add.may c) = !(m.all mayC) := by
      rw [List.any_eq_not_all_not]
      congr 2
      funext c
      rw [Bool.not_not]; rfl
    by_cases e1 : m.all mayC = true
    · refine Evt.ite_neg (by rw [ea, e1]; simp) (Evt.ite_pos (by omega) ?_)
      rw [if_pos e1]
      by_cases e2 : 8 < (dd eqC (sortC (l ++ m))).length
      · refine Evt.ite_pos e2 ?_
        rw [if_pos e2]; exact Evt.pure _
      · refine Evt.ite_neg e2 ?_
        rw [if_neg e2]; exact Evt.pure _
    · refine Evt.ite_pos (by rw [ea, Bool.eq_false_iff.mpr e1]; rfl) ?_
      rw [if_neg e1]; exact Evt.pure _
  · refine Evt.ite_neg e ?_
    rw [if_neg e]; exact Evt.pure _
end Go.Proofs.Ytnnlbofmlfafhaa.P

end
section
namespace Go.Proofs.Ytnnlbofmlfafhaa.P
open Go.RowKit Go.Proofs.YtnnlbofmlfafhaaW.PrintWords Go.Proofs.YtnnlbofmlfafhaaW.PrintLast Go.Proofs.YtnnlbofmlfafhaaW.PrintMore
set_option linter.unusedVariables false
set_option linter.unusedSimpArgs false

def tx (l : List UInt8) : ByteArray := ⟨l.toArray⟩
theorem tx_app (l m : List UInt8) : tx l ++ tx m = tx (l ++ m) := app_list l m
theorem tx_size (l : List UInt8) : (tx l).size = l.length := size_list l
end Go.Proofs.Ytnnlbofmlfafhaa.P

end
section
namespace Go.Proofs.Ytnnlbofmlfafhaa.P
open Go.RowKit Go.Proofs.YtnnlbofmlfafhaaW.PrintWords Go.Proofs.YtnnlbofmlfafhaaW.PrintLast Go.Proofs.YtnnlbofmlfafhaaW.PrintMore
set_option linter.unusedVariables false
set_option linter.unusedSimpArgs false

theorem Evt.cast {α : Type} {g : Nat → Option α} {r s : α} (h : Evt g r) (e : r = s) : Evt g s := e ▸ h
theorem tx_def (l : List UInt8) : (⟨l.toArray⟩ : ByteArray) = tx l := rfl
def dg (n : Int) : List UInt8 := dig n.toNat
/-- texts with a blank between them -/
def jn : List (List UInt8) → List UInt8
  | [] => []
  | x :: l => x ++ (l.map (32 :: ·)).flatten
theorem jn_join (L : List (List UInt8)) : Lib.join L [32] = jn L := by
  cases L with
  | nil => rfl
  | cons x l =>
    induction l generalizing x with
    | nil => simp [Lib.join, List.intercalate, jn]
    | cons y l ih =>
      have := ih y
      simp [Lib.join, List.intercalate, jn] at this ⊢
      exact this
theorem jn_len (m : Nat) (L : List (List UInt8)) (h : ∀ u, u ∈ L → u.length ≤ m) : (jn L).length ≤ L.length * (m + 1) := by
  cases L with
  | nil => simp [jn]
  | cons x l =>
    have hx := h x (by simp)
    have : ∀ l : List (List UInt8), (∀ u, u ∈ l → u.length ≤ m) → ((l.map (32 :: ·)).flatten).length ≤ l.length * (m + 1) := by
      intro l
      induction l with
      | nil => intro _; simp
      | cons y l ih =>
        intro h
        have h1 := h y (by simp)
        have h2 := ih (fun u hu => h u (by simp [hu]))
        rw [List.map_cons, List.flatten_cons, List.length_append, List.length_cons, List.length_cons, Nat.succ_mul]
        omega
    have h3 := this l (fun u hu => h u (by simp [hu]))
    simp only [jn]
    rw [List.length_append, List.length_cons, Nat.succ_mul]
    omega
theorem join_is (L : List (List UInt8)) (h : L.length ≤ 100) (h2 : (jn L).length ≤ 10000) : strings_Join.f (L.map tx) (⟨#[32]⟩ : ByteArray) = some (tx (jn L)) := by
  unfold strings_Join.f
  have e : (L.map tx).map (·.data.toList) = L := by
    rw [List.map_map]
    have : ((fun x : ByteArray => x.data.toList) ∘ tx) = id := by funext l; simp [tx]
    rw [this, List.map_id]
  have e2 : (⟨#[32]⟩ : ByteArray).data.toList = [32] := rfl
  rw [e, e2, jn_join, if_pos ⟨by rw [List.length_map]; omega, by omega⟩]; rfl
theorem dg5 {n : Int} (h : n ≤ 65535) : (dg n).length ≤ 5 := dig_len_pow 4 _ (by simp; omega)
theorem dg7 {n : Int} (h : n ≤ 1048576) : (dg n).length ≤ 7 := dig_len_pow 6 _ (by simp; omega)
theorem cDig_is (n : Int) (h0 : 0 ≤ n) (h1 : n ≤ 1048576) : comm_digits.f n = some (tx (dg n)) := by unfold comm_digits.f; rw [if_pos ⟨h0, by omega⟩]; rfl
def cT (a b : Int) : List UInt8 :=
  if a = 65535 ∧ b = 65281 then [110, 111, 45, 101, 120, 112, 111, 114, 116] else if a = 65535 ∧ b = 65282 then [110, 111, 45, 97, 100, 118, 101, 114, 116, 105, 115, 101] else if a = 65535 ∧ b = 65283 then [108, 111, 99, 97, 108] else dg a ++ 58 :: dg b
def cTx (x : S63) : List UInt8 := cT x.f0 x.f1
theorem cT_len {a b : Int} (h : mayCB a b = true) : (cT a b).length ≤ 12 := by
  obtain ⟨h1, h2, h3, h4⟩ := mayCB_iff.1 h
  have l1 := dg5 h2
  have l2 := dg5 h4
  unfold cT
  split
  · simp
  · split
    · simp
    · split
      · simp
      · rw [List.length_append, List.length_cons]; omega
theorem commText_is (a b : Int) (h : mayCB a b = true) : comm_Text.f a b = some (tx (cT a b)) := by
  obtain ⟨h1, h2, h3, h4⟩ := mayCB_iff.1 h
  have l1 := dg5 h2
  have l2 := dg5 h4
  unfold comm_Text.f
  rw [commMay_is, h]
  simp only [Option.bind_some, comm_NoExport.f, comm_NoAdvertise.f, comm_Local.f, if_true]
  unfold cT
  by_cases c1 : a = 65535 ∧ b = 65281
  · rw [if_pos c1, if_pos (by simp [c1])]; rfl
  · rw [if_neg c1, if_neg (by simpa using c1)]
    by_cases c2 : a = 65535 ∧ b = 65282
    · rw [if_pos c2, if_pos (by simp [c2])]; rfl
    · rw [if_neg c2, if_neg (by simpa using c2)]
      by_cases c3 : a = 65535 ∧ b = 65283
      · rw [if_pos c3, if_pos (by simp [c3])]; rfl
      · rw [if_neg c3, if_neg (by simpa using c3), cDig_is a (by omega) (by omega), cDig_is b (by omega) (by omega)]
        simp only [Option.bind_some, tx_def, tx_app]
        rw [if_pos (by rw [tx_size]; omega), if_pos (by simp only [tx_size, List.length_append, List.length_cons, List.length_nil]; omega), List.append_assoc, List.singleton_append]
theorem jnC_len (l : List S63) (h : ∀ x, x ∈ l → mayCB x.f0 x.f1 = true) : (jn (l.map cTx)).length ≤ l.length * 13 := by
  have := jn_len 12 (l.map cTx) (fun u hu => by obtain ⟨x, hx, rfl⟩ := List.mem_map.1 hu; exact cT_len (h x hx))
  rwa [List.length_map] at this
theorem commTL_ev : ∀ (d : Nat) (l : List S63) (i : Nat), l.length ≤ 8 → (∀ x, x ∈ l → mayCB x.f0 x.f1 = true) → l.length - i = d → i ≤ l.length →
    Evt (fun k => comm_Texts.l0 k (((l.take i).map cTx).map tx) l (l.length : Int) (i : Int)) (tx (jn (l.map cTx))) := by
  intro d
  induction d with
  | zero =>
    intro l i hl ha hd hi
    refine Evt.step ?_
    simp only [comm_Texts.l0]
    refine Evt.ite_neg (by omega) ?_
    rw [List.take_of_length_le (by omega)]
    refine Evt.bindc (join_is _ (by rw [List.length_map]; omega) ?_) (Evt.pure _)
    have := jnC_len l ha
    omega
  | succ d ih =>
    intro l i hl ha hd hi
    refine Evt.step ?_
    simp only [comm_Texts.l0]
    obtain ⟨x, hx, he, hdr⟩ := pat (l := l) (i := i) (by omega)
    refine Evt.ite_pos (by omega) (Evt.ite_pos (by omega) (Evt.ite_pos (by omega) ?_))
    rw [rdC_at he]
    refine Evt.bindc (commText_is _ _ (ha x hx)) ?_
    refine Evt.ite_pos (by rw [List.length_map, List.length_map, List.length_take]; omega) ?_
    rw [wrap64_in _ (by omega) (by omega)]
    have hn := ih l (i + 1) hl ha (by omega) (by omega)
    rw [take_at he, List.map_append, List.map_append] at hn
    exact hn
theorem commTexts_ev (l : List S63) (h : setB l = true) : Evt (fun k => comm_Texts.f k l) (tx (jn (l.map cTx))) := by
  obtain ⟨h1, h2⟩ := setB_iff h
  unfold comm_Texts.f
  refine Evt.bind (commSet_ev l (by omega)) (Evt.ite_pos h ?_)
  exact commTL_ev l.length l 0 h1 h2 (by omega) (by omega)
end Go.Proofs.Ytnnlbofmlfafhaa.P

end
section
namespace Go.Proofs.Ytnnlbofmlfafhaa.P
open Go.RowKit Go.Proofs.YtnnlbofmlfafhaaW.PrintWords Go.Proofs.YtnnlbofmlfafhaaW.PrintLast Go.Proofs.YtnnlbofmlfafhaaW.PrintMore
set_option linter.unusedVariables false
set_option linter.unusedSimpArgs false

/-- lists of numbers: the longer one is the greater one -/
def cmpIL (a b : List Int) : Int := orI (cmpI a.length b.length) (cmpLst cmpI a b)
theorem cmpIL_ord : Ord cmpIL := orI_ord (cmpI_ord.pull (fun l : List Int => (l.length : Int))) (cmpLst_ord cmpI_ord)
/-- the first of a list that isn't nought -/
def firstNz : List Int → Int
  | [] => 0
  | x :: l => orI x (firstNz l)
theorem cmpOr_ev : ∀ (d : Nat) (l : List Int) (i : Nat), l.length ≤ 100 → l.length - i = d → i ≤ l.length → Evt (fun k => cmp_Or_int.l0 k 0 l (l.length : Int) (i : Int)) (firstNz (l.drop i)) := by
  intro d
  induction d with
  | zero =>
    intro l i hl hd hi
    refine Evt.step ?_
    simp only [cmp_Or_int.l0]
    refine Evt.ite_neg (by omega) (Evt.of fun k => ?_)
    rw [List.drop_eq_nil_of_le (by omega)]; rfl
  | succ d ih =>
    intro l i hl hd hi
    refine Evt.step ?_
    simp only [cmp_Or_int.l0]
    obtain ⟨x, hx, he, hdr⟩ := pat (l := l) (i := i) (by omega)
    refine Evt.ite_pos (by omega) (Evt.ite_pos (by omega) (Evt.ite_pos (by omega) ?_))
    rw [rd_at he, hdr]
    show Evt _ (orI x (firstNz (l.drop (i + 1))))
    unfold orI
    by_cases hb : x = 0
    · rw [if_neg (by omega)]
      refine Evt.ite_pos hb ?_
      rw [wrap64_in _ (by omega) (by omega)]
      exact ih l (i + 1) hl (by omega) (by omega)
    · rw [if_pos hb]
      exact Evt.ite_neg hb (Evt.pure _)
theorem cmpOrF_ev (l : List Int) (hl : l.length ≤ 100) : Evt (fun k => cmp_Or_int.f k l) (firstNz l) := cmpOr_ev l.length l 0 hl (by omega) (by omega)
theorem slcCmp_ev : ∀ (d : Nat) (a b : List Int) (i : Nat), a.length ≤ 1000 → a.length - i = d → i ≤ a.length → i ≤ b.length → Evt (fun k => slices_Compare_int_int.l0 k a b a (a.length : Int) (i : Int)) (cmpLst cmpI (a.drop i) (b.drop i)) := by
  intro d
  induction d with
  | zero =>
    intro a b i hl hd hi hb
    refine Evt.step ?_
    simp only [slices_Compare_int_int.l0]
    refine Evt.ite_neg (by omega) (Evt.of fun k => ?_)
    rw [show a.drop i = [] from List.drop_eq_nil_of_le (by omega)]
    by_cases h : i < b.length
    · obtain ⟨y, _, _, hdr⟩ := pat (l := b) (i := i) h
      rw [hdr, if_pos (by omega)]; rfl
    · rw [show b.drop i = [] from List.drop_eq_nil_of_le (by omega), if_neg (by omega)]; rfl
  | succ d ih =>
    intro a b i hl hd hi hb
    refine Evt.step ?_
    simp only [slices_Compare_int_int.l0]
    obtain ⟨x, hx, he, hdr⟩ := pat (l := a) (i := i) (by omega)
    refine Evt.ite_pos (by omega) (Evt.ite_pos (by omega) (Evt.ite_pos (by omega) ?_))
    rw [hdr]
    by_cases h : i < b.length
    · obtain ⟨y, _, hy, hdy⟩ := pat (l := b) (i := i) h
      refine Evt.ite_neg (by omega) (Evt.ite_pos (by omega) ?_)
      rw [rd_at he, rd_at hy, hdy, cmpI_is]
      simp only [Option.bind_some, cmpLst]
      by_cases hz : cmpI x y = 0
      · rw [if_neg (by omega)]
        refine Evt.ite_pos hz ?_
        rw [wrap64_in _ (by omega) (by omega)]
        exact ih a b (i + 1) hl (by omega) (by omega) (by omega)
      · rw [if_pos hz]
        exact Evt.ite_neg hz (Evt.pure _)
    · rw [show b.drop i = [] from List.drop_eq_nil_of_le (by omega)]
      exact Evt.ite_pos (by omega) (Evt.of fun k => rfl)
theorem orI_or (a b : Int) : firstNz [a, b] = orI a b := by
  show orI a (orI b 0) = orI a b
  unfold orI; by_cases h : b = 0 <;> simp [h]
theorem asCmp_ev (a b : List Int) (ha : a.length ≤ 1000) : Evt (fun k => aspath_Compare.f k a b) (cmpIL a b) := by
  unfold aspath_Compare.f
  rw [cmpI_is]
  refine Evt.bindc rfl ?_
  refine Evt.bind (slcCmp_ev a.length a b 0 ha (by omega) (by omega) (by omega)) ?_
  refine Evt.bind (cmpOrF_ev _ (by simp)) ?_
  rw [orI_or]
  exact Evt.pure _
end Go.Proofs.Ytnnlbofmlfafhaa.P

end
section
namespace Go.Proofs.Ytnnlbofmlfafhaa.P
open Go.RowKit Go.Proofs.YtnnlbofmlfafhaaW.PrintWords Go.Proofs.YtnnlbofmlfafhaaW.PrintLast Go.Proofs.YtnnlbofmlfafhaaW.PrintMore
set_option linter.unusedVariables false
set_option linter.unusedSimpArgs false

def inB (n a b : Int) : Bool := decide (a ≤ n) && decide (n ≤ b)
theorem within_is (n a b : Int) : attr_within.f n a b = some (inB n a b) := by
  unfold attr_within.f inB
  by_cases h : n ≥ a
  · rw [if_pos h]; simp [h]
  · rw [if_neg h]; simp [h]
theorem asB_in (n : Int) : inB n 1 65535 = asB n := rfl
def pathB (l : List Int) : Bool := decide (l.length ≤ 16) && l.all asB
theorem asMay_is (l : List Int) : aspath_May.f l = some (pathB l) := by
  unfold aspath_May.f pathB
  rw [List.all_eq_not_any_not]
theorem index_ev : ∀ (d : Nat) (l : List Int) (x : Int) (i : Nat), l.length ≤ 100 → l.length - i = d → i ≤ l.length → ∃ r : Int, Evt (fun k => slices_Index_int_int.l0 k l x (l.length : Int) (i : Int)) r ∧ decide (r ≥ 0) = (l.drop i).contains x := by
  intro d
  induction d with
  | zero =>
    intro l x i hl hd hi
    refine ⟨-1, Evt.step ?_, ?_⟩
    · simp only [slices_Index_int_int.l0]
      exact Evt.ite_neg (by omega) (Evt.of fun k => rfl)
    · rw [List.drop_eq_nil_of_le (by omega)]; rfl
  | succ d ih =>
    intro l x i hl hd hi
    obtain ⟨y, hy, he, hdr⟩ := pat (l := l) (i := i) (by omega)
    by_cases h : x = y
    · refine ⟨(i : Int), Evt.step ?_, ?_⟩
      · simp only [slices_Index_int_int.l0]
        refine Evt.ite_pos (by omega) (Evt.ite_pos (by omega) (Evt.ite_pos (by omega) ?_))
        rw [rd_at he]
        exact Evt.ite_pos h (Evt.of fun k => rfl)
      · rw [hdr, decide_eq_true (by omega)]; simp [h]
    · obtain ⟨r, h1, h2⟩ := ih l x (i + 1) hl (by omega) (by omega)
      refine ⟨r, Evt.step ?_, ?_⟩
      · simp only [slices_Index_int_int.l0]
        refine Evt.ite_pos (by omega) (Evt.ite_pos (by omega) (Evt.ite_pos (by omega) ?_))
        rw [rd_at he]
        refine Evt.ite_neg h ?_
        rw [wrap64_in _ (by omega) (by omega)]
        exact h1
      · rw [h2, hdr, List.contains_cons]; simp [h]
theorem contains_ev (l : List Int) (x : Int) (hl : l.length ≤ 100) : Evt (fun k => slices_Contains_int_int.f k l x) (l.contains x) := by
  obtain ⟨r, h1, h2⟩ := index_ev l.length l x 0 hl (by omega) (by omega)
  unfold slices_Contains_int_int.f
  refine Evt.bind h1 (Evt.of fun k => ?_)
  rw [h2]; rfl
def clB (seen : List Int) : List Int → Bool
  | [] => true
  | x :: l => asB x && (!(seen.contains x) && clB (seen ++ [x]) l)
def clustB (l : List Int) : Bool := decide (l.length ≤ 8) && clB [] l
theorem clustL_ev : ∀ (d : Nat) (l : List Int) (i : Nat), l.length ≤ 100 → l.length - i = d → i ≤ l.length → i ≤ 8 → Evt (fun k => attr_clusters.l0 k l l (l.length : Int) (i : Int)) (decide (l.length ≤ 8) && clB (l.take i) (l.drop i)) := by
  intro d
  induction d with
  | zero =>
    intro l i hl hd hi h8
    refine Evt.step ?_
    simp only [attr_clusters.l0]
    refine Evt.ite_neg (by omega) (Evt.of fun k => ?_)
    rw [List.drop_eq_nil_of_le (by omega), decide_eq_true (by omega)]; rfl
  | succ d ih =>
    intro l i hl hd hi h8
    refine Evt.step ?_
    simp only [attr_clusters.l0]
    obtain ⟨x, hx, he, hdr⟩ := pat (l := l) (i := i) (by omega)
    refine Evt.ite_pos (by omega) (Evt.ite_pos (by omega) (Evt.ite_pos (by omega) ?_))
    by_cases h : i = 8
    · refine Evt.ite_pos (by omega) (Evt.of fun k => ?_)
      rw [decide_eq_false (by omega)]; rfl
    refine Evt.ite_neg (by omega) ?_
    have hn := ih l (i + 1) hl (by omega) (by omega) (by omega)
    rw [take_at he] at hn
    rw [rd_at he, hdr]
    refine Evt.bindc (within_is _ _ _) ?_
    rw [asB_in]
    simp only [clB]
    by_cases hb : asB x = true
    · refine Evt.ite_pos hb (Evt.ite_pos (by omega) ?_)
      rw [Int.toNat_natCast]
      refine Evt.bind (contains_ev _ _ (by rw [List.length_take]; omega)) ?_
      rw [hb, Bool.true_and]
      by_cases hc : (l.take i).contains x = true
      · refine Evt.ite_pos hc (Evt.of fun k => ?_)
        rw [hc]; simp
      · refine Evt.ite_neg hc ?_
        rw [Bool.eq_false_iff.mpr hc, wrap64_in _ (by omega) (by omega)]
        exact hn
    · refine Evt.ite_neg hb (Evt.of fun k => ?_)
      rw [Bool.eq_false_iff.mpr hb]; simp
theorem clust_ev (l : List Int) (hl : l.length ≤ 100) : Evt (fun k => attr_clusters.f k l) (clustB l) := clustL_ev l.length l 0 hl (by omega) (by omega) (by omega)
def mayNB (p m o f : Int) : Bool := inB p 0 1048576 && (inB m 0 1048576 && (inB o 0 2 && inB f 0 65535))
def mayAB (p m o : Int) (l : List Int) (c : List S63) (f : Int) (s : List Int) : Bool := mayNB p m o f && (pathB l && (setB c && clustB s))
theorem attrMay_ev (p m o : Int) (l : List Int) (c : List S63) (f : Int) (s : List Int) (hc : c.length ≤ 100) (hs : s.length ≤ 100) : Evt (fun k => attr_May.f k p m o l c f s) (mayAB p m o l c f s) := by
  unfold attr_May.f mayAB mayNB
  refine Evt.bindc (within_is _ _ _) ?_
  by_cases h1 : inB p 0 1048576 = true
  · rw [h1]
    refine Evt.ite_pos rfl (Evt.bindc (within_is _ _ _) ?_)
    by_cases h2 : inB m 0 1048576 = true
    · rw [h2]
      refine Evt.ite_pos rfl (Evt.bindc (within_is _ _ _) ?_)
      by_cases h3 : inB o 0 2 = true
      · rw [h3]
        refine Evt.ite_pos rfl (Evt.bindc (within_is _ _ _) ?_)
        by_cases h4 : inB f 0 65535 = true
        · rw [h4]
          refine Evt.ite_pos rfl (Evt.bindc (asMay_is _) ?_)
          by_cases h5 : pathB l = true
          · rw [h5]
            refine Evt.ite_pos rfl (Evt.bind (commSet_ev c (by omega)) ?_)
            by_cases h6 : setB c = true
            · rw [h6]
              refine Evt.ite_pos rfl (Evt.bind (clust_ev s hs) (Evt.of fun k => ?_))
              simp
            · rw [Bool.eq_false_iff.mpr h6]; exact Evt.ite_neg (by simp) (Evt.of fun k => by simp)
          · rw [Bool.eq_false_iff.mpr h5]; exact Evt.ite_neg (by simp) (Evt.of fun k => by simp)
        · rw [Bool.eq_false_iff.mpr h4]; exact Evt.ite_neg (by simp) (Evt.of fun k => by simp)
      · rw [Bool.eq_false_iff.mpr h3]; exact Evt.ite_neg (by simp) (Evt.of fun k => by simp)
    · rw [Bool.eq_false_iff.mpr h2]; exact Evt.ite_neg (by simp) (Evt.of fun k => by simp)
  · rw [Bool.eq_false_iff.mpr h1]; exact Evt.ite_neg (by simp) (Evt.of fun k => by simp)
end Go.Proofs.Ytnnlbofmlfafhaa.P

end
section
namespace Go.Proofs.Ytnnlbofmlfafhaa.P
open Go.RowKit Go.Proofs.YtnnlbofmlfafhaaW.PrintWords Go.Proofs.YtnnlbofmlfafhaaW.PrintLast Go.Proofs.YtnnlbofmlfafhaaW.PrintMore
set_option linter.unusedVariables false
set_option linter.unusedSimpArgs false

abbrev DoT := Int × Int × Int × List Int × List S63 × Int × List Int × Int
def noD (e : Int) : DoT := (0, 0, 0, [], [], 0, [], e)
def chB (a b c : Int) (add del : List S63) (pre : List Int) : Bool :=
  decide (add.length ≤ 8) && (decide (del.length ≤ 8) && (add.all mayC && (del.all mayC && (inB a (-1) 1048576 && (inB b (-1) 1048576 && (inB c (-1) 2 && pathB pre))))))
theorem change_is (a b c : Int) (add del : List S63) (cl : Bool) (pre : List Int) : attr_Change.f a b c add del cl pre = some (chB a b c add del pre) := by
  unfold attr_Change.f attr_Change.is chB pathB
  have ea : ∀ m : List S63, (!m.any fun c => !attr_Change.may c) = m.all mayC := fun m => by
    rw [List.any_eq_not_all_not, Bool.not_not]
    congr 1
    funext c
    rw [Bool.not_not]; rfl
  have eb : (!pre.any fun n => !asB n) = pre.all asB := by
    rw [List.any_eq_not_all_not, Bool.not_not]
    congr 1
    funext c
    rw [Bool.not_not]
  rw [ea, ea, eb]; rfl
def pick0 (s x : Int) : Int := if s ≥ 0 then s else x
def doT (p m o : Int) (l : List Int) (c : List S63) (f : Int) (q : List Int) (sp sm so : Int) (add del : List S63) (cl : Bool) (pre : List Int) : DoT :=
  if mayAB p m o l c f q = true ∧ chB sp sm so add del pre = true then
    (if pre.length + l.length ≤ 16 then
      (if (addR (delR (if cl = true then [] else c) del).1 add).2 = 0 then (pick0 sp p, pick0 sm m, pick0 so o, pre ++ l, (addR (delR (if cl = true then [] else c) del).1 add).1, f, q, 0) else noD (addR (delR (if cl = true then [] else c) del).1 add).2)
    else noD 2)
  else noD 1
theorem delR_len (c d : List S63) : (delR c d).1.length ≤ c.length := by
  unfold delR
  split
  · exact List.length_filter_le _ _
  · simp
theorem attrDo_ev (p m o : Int) (l : List Int) (c : List S63) (f : Int) (q : List Int) (sp sm so : Int) (add del : List S63) (cl : Bool) (pre : List Int)
    (hl : l.length ≤ 100) (hc : c.length ≤ 100) (hq : q.length ≤ 100) (ha : add.length ≤ 100) (hd : del.length ≤ 100) (hp : pre.length ≤ 100) :
    Evt (fun k => attr_Do.f k p m o l c f q sp sm so add del cl pre) (doT p m o l c f q sp sm so add del cl pre) := by
  have N : Evt (fun k => attr_Do.j0 k true p m o l c f q sp sm so add del cl pre) (noD 1) := by
    refine Evt.step ?_
    simp only [attr_Do.j0]
    exact Evt.ite_pos trivial (Evt.pure _)
  unfold attr_Do.f
  refine Evt.bind (attrMay_ev p m o l c f q (by omega) (by omega)) ?_
  unfold doT
  by_cases h1 : mayAB p m o l c f q = true
  · refine Evt.ite_pos h1 (Evt.bindc (change_is _ _ _ _ _ _ _) ?_)
    by_cases h2 : chB sp sm so add del pre = true
    · rw [if_pos ⟨h1, h2⟩, h2]
      refine Evt.step ?_
      simp only [attr_Do.j0]
      refine Evt.ite_neg (by simp) ?_
      by_cases h3 : pre.length + l.length ≤ 16
      · rw [if_pos h3]
        refine Evt.ite_neg (by rw [wrap64_in _ (by omega) (by omega)]; omega) ?_
        have hcp : attr_Copy.f p m o l c f q = some (p, m, o, l, c, f, q) := by
          unfold attr_Copy.f attr_cloned_int.f api_Comm_59.f
          rw [if_pos (by omega), Option.bind_some, if_pos (by omega), Option.bind_some, if_pos (by omega), Option.bind_some]
        refine Evt.bindc hcp ?_
        have F : ∀ p' m' o' : Int, Evt (fun k => attr_Do.j3 k sp sm so add del cl pre p' m' o' l c f q) (if (addR (delR (if cl = true then [] else c) del).1 add).2 = 0 then (p', m', o', pre ++ l, (addR (delR (if cl = true then [] else c) del).1 add).1, f, q, 0) else noD (addR (delR (if cl = true then [] else c) del).1 add).2) := by
          intro p' m' o'
          have G : ∀ c' : List S63, c'.length ≤ 100 → Evt (fun k => attr_Do.j4 k sp sm so add del cl pre p' m' o' l c' f q) (if (addR (delR c' del).1 add).2 = 0 then (p', m', o', pre ++ l, (addR (delR c' del).1 add).1, f, q, 0) else noD (addR (delR c' del).1 add).2) := by
            intro c' hc'
            refine Evt.step ?_
            simp only [attr_Do.j4]
            refine Evt.bind (del_ev c' del (by omega)) (Evt.bind (add_ev _ add (by have := delR_len c' del; omega) (by omega)) ?_)
            by_cases h4 : (addR (delR c' del).1 add).2 = 0
            · refine Evt.ite_pos h4 ?_
              rw [if_pos h4]
              have hcl : attr_cloned_int.f pre = some pre := by unfold attr_cloned_int.f; rw [if_pos (by omega)]
              exact Evt.bindc hcl (Evt.ite_pos (by omega) (Evt.pure _))
            · refine Evt.ite_neg h4 ?_
              rw [if_neg h4]; exact Evt.pure _
          refine Evt.step ?_
          simp only [attr_Do.j3]
          by_cases h5 : cl = true
          · subst h5
            refine Evt.ite_pos rfl ?_
            rw [if_pos rfl]
            exact G [] (by simp)
          · refine Evt.ite_neg h5 ?_
            rw [if_neg h5]
            exact G c hc
        have F2 : ∀ p' m' : Int, Evt (fun k => attr_Do.j2 k sp sm so add del cl pre p' m' o l c f q) (if (addR (delR (if cl = true then [] else c) del).1 add).2 = 0 then (p', m', pick0 so o, pre ++ l, (addR (delR (if cl = true then [] else c) del).1 add).1, f, q, 0) else noD (addR (delR (if cl = true then [] else c) del).1 add).2) := by
          intro p' m'
          refine Evt.step ?_
          simp only [attr_Do.j2]
          unfold pick0
          by_cases h6 : so ≥ 0
          · refine Evt.ite_pos h6 ?_
            rw [if_pos h6]; exact F p' m' so
          · refine Evt.ite_neg h6 ?_
            rw [if_neg h6]; exact F p' m' o
        have F1 : ∀ p' : Int, Evt (fun k => attr_Do.j1 k sp sm so add del cl pre p' m o l c f q) (if (addR (delR (if cl = true then [] else c) del).1 add).2 = 0 then (p', pick0 sm m, pick0 so o, pre ++ l, (addR (delR (if cl = true then [] else c) del).1 add).1, f, q, 0) else noD (addR (delR (if cl = true then [] else c) del).1 add).2) := by
          intro p'
          refine Evt.step ?_
          simp only [attr_Do.j1]
          by_cases h6 : sm ≥ 0
          · refine Evt.ite_pos h6 ?_
            rw [show pick0 sm m = sm from if_pos h6]; exact F2 p' sm
          · refine Evt.ite_neg h6 ?_
            rw [show pick0 sm m = m from if_neg h6]; exact F2 p' m
        by_cases h6 : sp ≥ 0
        · refine Evt.ite_pos h6 ?_
          rw [show pick0 sp p = sp from if_pos h6]; exact F1 sp
        · refine Evt.ite_neg h6 ?_
          rw [show pick0 sp p = p from if_neg h6]; exact F1 p
      · rw [if_neg h3]
        exact Evt.ite_pos (by rw [wrap64_in _ (by omega) (by omega)]; omega) (Evt.pure _)
    · rw [if_neg (fun h => h2 h.2), Bool.eq_false_iff.mpr h2]
      exact N
  · refine Evt.ite_neg h1 ?_
    rw [if_neg (fun h : mayAB p m o l c f q = true ∧ chB sp sm so add del pre = true => h1 h.1)]
    exact N
end Go.Proofs.Ytnnlbofmlfafhaa.P

end
section
namespace Go.Proofs.Ytnnlbofmlfafhaa.P
open Go.RowKit Go.Proofs.YtnnlbofmlfafhaaW.PrintWords Go.Proofs.YtnnlbofmlfafhaaW.PrintLast Go.Proofs.YtnnlbofmlfafhaaW.PrintMore
set_option linter.unusedVariables false
set_option linter.unusedSimpArgs false

theorem aDig_is (n : Int) (h0 : 0 ≤ n) (h1 : n ≤ 1048576) : attr_digits.f n = some (tx (dg n)) := by unfold attr_digits.f; rw [if_pos ⟨h0, by omega⟩]; rfl
theorem pDig_is (n : Int) (h0 : 0 ≤ n) (h1 : n ≤ 1048576) : aspath_digits.f n = some (tx (dg n)) := by unfold aspath_digits.f; rw [if_pos ⟨h0, by omega⟩]; rfl
theorem asB_iff {n : Int} : asB n = true ↔ 1 ≤ n ∧ n ≤ 65535 := by simp [asB]
theorem inB_iff {n a b : Int} : inB n a b = true ↔ a ≤ n ∧ n ≤ b := by simp [inB]
theorem jnN_len (l : List Int) (h : ∀ x, x ∈ l → asB x = true) : (jn (l.map dg)).length ≤ l.length * 6 := by
  have := jn_len 5 (l.map dg) (fun u hu => by obtain ⟨x, hx, rfl⟩ := List.mem_map.1 hu; exact dg5 (asB_iff.1 (h x hx)).2)
  rwa [List.length_map] at this

theorem pathTL_ev : ∀ (d : Nat) (l : List Int) (i : Nat), l.length ≤ 16 → (∀ x, x ∈ l → asB x = true) → l.length - i = d → i ≤ l.length →
    Evt (fun k => aspath_Text.l0 k (((l.take i).map dg).map tx) l (l.length : Int) (i : Int)) (tx (jn (l.map dg))) := by
  intro d
  induction d with
  | zero =>
    intro l i hl ha hd hi
    refine Evt.step ?_
    simp only [aspath_Text.l0]
    refine Evt.ite_neg (by omega) ?_
    rw [List.take_of_length_le (by omega)]
    refine Evt.bindc (join_is _ (by rw [List.length_map]; omega) ?_) (Evt.pure _)
    have := jnN_len l ha
    omega
  | succ d ih =>
    intro l i hl ha hd hi
    refine Evt.step ?_
    simp only [aspath_Text.l0]
    obtain ⟨x, hx, he, hdr⟩ := pat (l := l) (i := i) (by omega)
    have hx2 := asB_iff.1 (ha x hx)
    refine Evt.ite_pos (by omega) (Evt.ite_pos (by omega) (Evt.ite_pos (by omega) ?_))
    rw [rd_at he]
    refine Evt.bindc (pDig_is x (by omega) (by omega)) ?_
    refine Evt.ite_pos (by rw [List.length_map, List.length_map, List.length_take]; omega) ?_
    rw [wrap64_in _ (by omega) (by omega)]
    have hn := ih l (i + 1) hl ha (by omega) (by omega)
    rw [take_at he, List.map_append, List.map_append] at hn
    exact hn
theorem pathB_iff {l : List Int} : pathB l = true ↔ l.length ≤ 16 ∧ ∀ x, x ∈ l → asB x = true := by simp [pathB]
theorem pathText_ev (l : List Int) (h : pathB l = true) : Evt (fun k => aspath_Text.f k l) (tx (jn (l.map dg))) := by
  obtain ⟨h1, h2⟩ := pathB_iff.1 h
  unfold aspath_Text.f
  refine Evt.bindc (asMay_is l) (Evt.ite_pos h ?_)
  exact pathTL_ev l.length l 0 h1 h2 (by omega) (by omega)
end Go.Proofs.Ytnnlbofmlfafhaa.P

end
section
namespace Go.Proofs.Ytnnlbofmlfafhaa.P
open Go.RowKit Go.Proofs.YtnnlbofmlfafhaaW.PrintWords Go.Proofs.YtnnlbofmlfafhaaW.PrintLast Go.Proofs.YtnnlbofmlfafhaaW.PrintMore
set_option linter.unusedVariables false
set_option linter.unusedSimpArgs false

def oT (o : Int) : List UInt8 := if o = 0 then [105, 103, 112] else if o = 1 then [101, 103, 112] else [110, 111, 110, 101]
def frT (f : Int) : List UInt8 := if f = 0 then [] else [32, 102, 114, 111, 109, 32] ++ dg f
def clT (s : List Int) : List UInt8 := if s = [] then [] else [32, 99, 108, 117, 115, 116, 101, 114, 115, 32, 91] ++ jn (s.map dg) ++ [93]
def atT (p m o : Int) (l : List Int) (c : List S63) (f : Int) (s : List Int) : List UInt8 :=
  [112, 114, 101, 102, 32] ++ dg p ++ [32, 109, 101, 100, 32] ++ dg m ++ [32, 111, 114, 105, 103, 105, 110, 32] ++ oT o ++ [32, 112, 97, 116, 104, 32, 91] ++ jn (l.map dg) ++ [93, 32, 99, 111, 109, 109, 115, 32, 91] ++ jn (c.map cTx) ++ [93] ++ frT f ++ clT s
theorem rdO_is (o : Int) (h : 0 ≤ o ∧ o ≤ 2) : rdOf ByteArray.empty [(⟨#[105, 103, 112]⟩ : ByteArray), (⟨#[101, 103, 112]⟩ : ByteArray), (⟨#[110, 111, 110, 101]⟩ : ByteArray)] o = tx (oT o) := by
  rcases (by omega : o = 0 ∨ o = 1 ∨ o = 2) with rfl | rfl | rfl <;> rfl
theorem oT_len (o : Int) : (oT o).length ≤ 4 := by
  unfold oT
  split
  · simp
  · split <;> simp
theorem clB_may : ∀ (l seen : List Int), clB seen l = true → ∀ x, x ∈ l → asB x = true := by
  intro l
  induction l with
  | nil => intro _ _ x hx; simp at hx
  | cons y l ih =>
    intro seen h x hx
    simp only [clB, Bool.and_eq_true] at h
    rcases List.mem_cons.1 hx with rfl | hx
    · exact h.1
    · exact ih _ h.2.2 x hx
theorem clustB_iff {l : List Int} (h : clustB l = true) : l.length ≤ 8 ∧ ∀ x, x ∈ l → asB x = true := by
  simp only [clustB, Bool.and_eq_true, decide_eq_true_eq] at h
  exact ⟨h.1, clB_may l [] h.2⟩
theorem clTL_ev : ∀ (d : Nat) (l : List Int) (i : Nat) (x : List UInt8), x.length ≤ 1000 → l.length ≤ 8 → (∀ x, x ∈ l → asB x = true) → l.length - i = d → i ≤ l.length →
    Evt (fun k => attr_Text.l0 k (tx x) (((l.take i).map dg).map tx) l (l.length : Int) (i : Int)) (tx (x ++ ([32, 99, 108, 117, 115, 116, 101, 114, 115, 32, 91] ++ jn (l.map dg) ++ [93]))) := by
  intro d
  induction d with
  | zero =>
    intro l i x hx hl ha hd hi
    have hj := jnN_len l ha
    refine Evt.step ?_
    simp only [attr_Text.l0]
    refine Evt.ite_neg (by omega) ?_
    rw [List.take_of_length_le (by omega)]
    refine Evt.bindc (join_is _ (by rw [List.length_map]; omega) (by omega)) ?_
    simp only [tx_def, tx_app]
    refine Evt.ite_pos (by rw [tx_size]; omega) (Evt.ite_pos (by simp only [tx_size, List.length_append, List.length_cons, List.length_nil]; omega) (Evt.ite_pos (by simp only [tx_size, List.length_append, List.length_cons, List.length_nil]; omega) (Evt.pure _)))
  | succ d ih =>
    intro l i y hy hl ha hd hi
    refine Evt.step ?_
    simp only [attr_Text.l0]
    obtain ⟨x, hx, he, hdr⟩ := pat (l := l) (i := i) (by omega)
    have hx2 := asB_iff.1 (ha x hx)
    refine Evt.ite_pos (by omega) (Evt.ite_pos (by omega) (Evt.ite_pos (by omega) ?_))
    rw [rd_at he]
    refine Evt.bindc (aDig_is x (by omega) (by omega)) ?_
    refine Evt.ite_pos (by rw [List.length_map, List.length_map, List.length_take]; omega) ?_
    rw [wrap64_in _ (by omega) (by omega)]
    have hn := ih l (i + 1) y hy hl ha (by omega) (by omega)
    rw [take_at he, List.map_append, List.map_append] at hn
    exact hn
theorem attrJ_ev (x : List UInt8) (p m o : Int) (l : List Int) (c : List S63) (f : Int) (s : List Int) (hx : x.length ≤ 1000) (hs : clustB s = true) : Evt (fun k => attr_Text.j0 k (tx x) p m o l c f s) (tx (x ++ clT s)) := by
  obtain ⟨h1, h2⟩ := clustB_iff hs
  refine Evt.step ?_
  simp only [attr_Text.j0]
  unfold clT
  by_cases h : s = []
  · subst h
    rw [if_pos rfl, List.append_nil]
    exact Evt.ite_neg (by simp) (Evt.pure _)
  · rw [if_neg h]
    have : s.length ≠ 0 := fun e => h (List.eq_nil_of_length_eq_zero e)
    refine Evt.ite_pos (by omega) ?_
    have hn := clTL_ev s.length s 0 x hx h1 h2 (by omega) (by omega)
    rw [List.take_zero] at hn
    exact hn
theorem mayAB_iff {p m o : Int} {l : List Int} {c : List S63} {f : Int} {s : List Int} (h : mayAB p m o l c f s = true) : (0 ≤ p ∧ p ≤ 1048576) ∧ (0 ≤ m ∧ m ≤ 1048576) ∧ (0 ≤ o ∧ o ≤ 2) ∧ (0 ≤ f ∧ f ≤ 65535) ∧ pathB l = true ∧ setB c = true ∧ clustB s = true := by
  simp only [mayAB, mayNB, Bool.and_eq_true, inB_iff] at h
  exact ⟨h.1.1, h.1.2.1, h.1.2.2.1, h.1.2.2.2, h.2.1, h.2.2.1, h.2.2.2⟩
set_option maxHeartbeats 4000000 in
theorem attrText_ev (p m o : Int) (l : List Int) (c : List S63) (f : Int) (s : List Int) (hm : mayAB p m o l c f s = true) : Evt (fun k => attr_Text.f k p m o l c f s) (tx (atT p m o l c f s)) := by
  obtain ⟨⟨p0, p1⟩, ⟨m0, m1⟩, ⟨o0, o1⟩, ⟨f0, f1⟩, hl, hc, hs⟩ := mayAB_iff hm
  have lp := dg7 p1
  have lm := dg7 m1
  have lf := dg5 f1
  have lo := oT_len o
  have hP := jnN_len l (pathB_iff.1 hl).2
  have hP2 := (pathB_iff.1 hl).1
  have hC := jnC_len c (setB_iff hc).2
  have hC2 := (setB_iff hc).1
  unfold attr_Text.f
  refine Evt.bind (attrMay_ev p m o l c f s (by omega) (by have := (clustB_iff hs).1; omega)) (Evt.ite_pos hm ?_)
  refine Evt.bindc (aDig_is p p0 (by omega)) ?_
  simp only [tx_def, tx_app, tx_size, List.length_append, List.length_cons, List.length_nil]
  refine Evt.ite_pos (by omega) (Evt.ite_pos (by omega) (Evt.bindc (aDig_is m m0 (by omega)) ?_))
  simp only [tx_def, tx_app, tx_size, List.length_append, List.length_cons, List.length_nil]
  refine Evt.ite_pos (by omega) (Evt.ite_pos (by omega) (Evt.bindc rfl ?_))
  refine Evt.ite_pos o0 (Evt.ite_pos (by simp only [List.length_cons, List.length_nil]; omega) ?_)
  have ho := rdO_is o ⟨o0, o1⟩
  simp only [tx_def] at ho
  rw [ho]
  simp only [tx_def, tx_app, tx_size, List.length_append, List.length_cons, List.length_nil]
  refine Evt.ite_pos (by omega) (Evt.ite_pos (by omega) (Evt.bind (pathText_ev l hl) ?_))
  simp only [tx_def, tx_app, tx_size, List.length_append, List.length_cons, List.length_nil]
  refine Evt.ite_pos (by omega) (Evt.ite_pos (by omega) (Evt.bind (commTexts_ev c hc) ?_))
  simp only [tx_def, tx_app, tx_size, List.length_append, List.length_cons, List.length_nil]
  refine Evt.ite_pos (by omega) (Evt.ite_pos (by omega) ?_)
  by_cases hf : f = 0
  · refine Evt.ite_neg (by omega) ?_
    refine Evt.cast (attrJ_ev _ p m o l c f s (by simp only [List.length_append, List.length_cons, List.length_nil]; omega) hs) ?_
    simp only [atT, frT, if_pos hf, List.append_nil]
  · refine Evt.ite_pos (by omega) (Evt.bindc (aDig_is f f0 (by omega)) ?_)
    simp only [tx_def, tx_app, tx_size, List.length_append, List.length_cons, List.length_nil]
    refine Evt.ite_pos (by omega) (Evt.ite_pos (by omega) ?_)
    refine Evt.cast (attrJ_ev _ p m o l c f s (by simp only [List.length_append, List.length_cons, List.length_nil]; omega) hs) ?_
    simp only [atT, frT, if_neg hf]
theorem attrText_no (p m o : Int) (l : List Int) (c : List S63) (f : Int) (s : List Int) (hc : c.length ≤ 100) (hs : s.length ≤ 100) (hm : mayAB p m o l c f s = false) : Evt (fun k => attr_Text.f k p m o l c f s) (tx []) := by
  unfold attr_Text.f
  refine Evt.bind (attrMay_ev p m o l c f s hc hs) ?_
  rw [hm]
  exact Evt.ite_neg (by simp) (Evt.of fun k => rfl)
end Go.Proofs.Ytnnlbofmlfafhaa.P

end
section
namespace Go.Proofs.Ytnnlbofmlfafhaa.P
open Go.RowKit Go.Proofs.YtnnlbofmlfafhaaW.PrintWords Go.Proofs.YtnnlbofmlfafhaaW.PrintLast Go.Proofs.YtnnlbofmlfafhaaW.PrintMore
set_option linter.unusedVariables false
set_option linter.unusedSimpArgs false

def attC (x y : S30) : Int := orI (cmpI x.f0 y.f0) (orI (cmpI x.f1 y.f1) (orI (cmpI x.f2 y.f2) (orI (cmpIL x.f3 y.f3) (orI (cmpCL x.f4 y.f4) (orI (cmpI x.f5 y.f5) (orI (cmpIL x.f6 y.f6) 0))))))
theorem zero_ord {α : Type} : Ord (fun _ _ : α => (0 : Int)) := ⟨fun _ _ => rfl, fun _ _ _ _ _ => Int.le_refl 0⟩
theorem attC_ord : Ord attC :=
  orI_ord (cmpI_ord.pull fun x : S30 => x.f0) (orI_ord (cmpI_ord.pull fun x : S30 => x.f1) (orI_ord (cmpI_ord.pull fun x : S30 => x.f2) (orI_ord (cmpIL_ord.pull fun x : S30 => x.f3) (orI_ord (cmpCL_ord.pull fun x : S30 => x.f4) (orI_ord (cmpI_ord.pull fun x : S30 => x.f5) (orI_ord (cmpIL_ord.pull fun x : S30 => x.f6) zero_ord))))))
theorem attrCmp_ev (x y : S30) (h1 : x.f3.length ≤ 1000) (h2 : x.f6.length ≤ 1000) : Evt (fun k => attr_Compare.f k x.f0 x.f1 x.f2 x.f3 x.f4 x.f5 x.f6 y.f0 y.f1 y.f2 y.f3 y.f4 y.f5 y.f6) (attC x y) := by
  unfold attr_Compare.f
  refine Evt.bindc (cmpI_is _ _) (Evt.bindc (cmpI_is _ _) (Evt.bindc (cmpI_is _ _) (Evt.bind (asCmp_ev _ _ h1) (Evt.bindc rfl (Evt.bindc (cmpI_is _ _) (Evt.bind (asCmp_ev _ _ h2) (Evt.bind (cmpOrF_ev _ (by simp)) (Evt.pure _))))))))
theorem few_is (x : S30) : whirligigref09_Few.f x.f0 x.f1 x.f2 x.f3 x.f4 x.f5 x.f6 = some (decide (x.f3.length ≤ 100 ∧ x.f4.length ≤ 100 ∧ x.f6.length ≤ 100)) := by
  unfold whirligigref09_Few.f
  by_cases h1 : x.f3.length ≤ 100
  · rw [if_pos (by omega)]
    by_cases h2 : x.f4.length ≤ 100
    · rw [if_pos (by omega)]
      exact congrArg some (decide_eq_decide.2 (by omega))
    · rw [if_neg (by omega), decide_eq_false (by omega)]
  · rw [if_neg (by omega), decide_eq_false (by omega)]
end Go.Proofs.Ytnnlbofmlfafhaa.P

end
section
namespace Go.Proofs.Ytnnlbofmlfafhaa.P
open Go.RowKit Go.Proofs.YtnnlbofmlfafhaaW.PrintWords Go.Proofs.YtnnlbofmlfafhaaW.PrintLast Go.Proofs.YtnnlbofmlfafhaaW.PrintMore
set_option linter.unusedVariables false
set_option linter.unusedSimpArgs false

def mayX (x : S30) : Bool := mayAB x.f0 x.f1 x.f2 x.f3 x.f4 x.f5 x.f6
def atX (x : S30) : List UInt8 := atT x.f0 x.f1 x.f2 x.f3 x.f4 x.f5 x.f6
def fewX (x : S30) : Prop := x.f3.length ≤ 100 ∧ x.f4.length ≤ 100 ∧ x.f6.length ≤ 100
theorem livesT_ev : Evt (fun k => whirligiglaw09_lives.f k) true := Evt.of_mono (K := 8) (fun k => whirligiglaw09_lives.mono k) (by decide +kernel)
def txX (x : S30) : List UInt8 := if mayX x then atX x else []
theorem textX_ev (x : S30) (h : fewX x) : Evt (fun k => attr_Text.f k x.f0 x.f1 x.f2 x.f3 x.f4 x.f5 x.f6) (tx (txX x)) := by
  unfold txX
  by_cases hm : mayX x = true
  · rw [if_pos hm]; exact attrText_ev _ _ _ _ _ _ _ hm
  · rw [if_neg hm]; exact attrText_no _ _ _ _ _ _ _ h.2.1 h.2.2 (Bool.eq_false_iff.mpr hm)
theorem sameX_ev (x y : S30) (h : fewX x) : Evt (fun k => attr_Same.f k x.f0 x.f1 x.f2 x.f3 x.f4 x.f5 x.f6 y.f0 y.f1 y.f2 y.f3 y.f4 y.f5 y.f6) (attC x y == 0) := by
  unfold attr_Same.f
  exact Evt.bind (attrCmp_ev x y (by have := h.1; omega) (by have := h.2.2; omega)) (Evt.pure _)
end Go.Proofs.Ytnnlbofmlfafhaa.P

end
section
namespace Go.Proofs.Ytnnlbofmlfafhaa.Pure
open Go.RowKit Go.Proofs.Ytnnlbofmlfafhaa Go.Proofs.Ytnnlbofmlfafhaa.P Go.Proofs.YtnnlbofmlfafhaaW.PrintWords Go.Proofs.YtnnlbofmlfafhaaW.PrintLast Go.Proofs.YtnnlbofmlfafhaaW.PrintMore
set_option linter.unusedVariables false

theorem fewSet_is (x : S37) : whirligigref09_FewSet.f x.f0 x.f1 x.f2 x.f3 x.f4 x.f5 x.f6 = some (decide (x.f3.length ≤ 100 ∧ x.f4.length ≤ 100 ∧ x.f6.length ≤ 100)) := by
  unfold whirligigref09_FewSet.f
  by_cases h1 : (x.f3.length : Int) ≤ 100
  · rw [if_pos h1]
    by_cases h2 : (x.f4.length : Int) ≤ 100
    · rw [if_pos h2]
      exact congrArg some (decide_eq_decide.2 (by omega))
    · rw [if_neg h2]
      exact congrArg some (decide_eq_false (by omega)).symm
  · rw [if_neg h1]
    exact congrArg some (decide_eq_false (by omega)).symm
theorem spoil2_ev : ∀ (d : Nat) (a b c e f : Int) (l : List Int) (m : List S63) (q : List Int) (i : Nat), q.length ≤ 1000 → q.length - i = d → i ≤ q.length → ∃ r, Evt (fun k => whirligiglaw09_spoil.l2 k (i : Int) a b c l m e q) r := by
  intro d
  induction d with
  | zero =>
    intro a b c e f l m q i hq hd hi
    refine ⟨(l, m, q), Evt.step ?_⟩
    simp only [whirligiglaw09_spoil.l2]
    exact Evt.ite_neg (by omega) (Evt.pure _)
  | succ d ih =>
    intro a b c e f l m q i hq hd hi
    obtain ⟨r, hr⟩ := ih a b c e f l m (q.set i 7) (i + 1) (by rw [List.length_set]; exact hq) (by rw [List.length_set]; omega) (by rw [List.length_set]; omega)
    refine ⟨r, Evt.step ?_⟩
    simp only [whirligiglaw09_spoil.l2]
    refine Evt.ite_pos (by omega) (Evt.ite_pos (by omega) ?_)
    rw [wrap64_in _ (by omega) (by omega), Int.toNat_natCast]
    exact hr
theorem spoil1_ev : ∀ (d : Nat) (a b c e f : Int) (l : List Int) (m : List S63) (q : List Int) (i : Nat), m.length ≤ 1000 → q.length ≤ 1000 → m.length - i = d → i ≤ m.length → ∃ r, Evt (fun k => whirligiglaw09_spoil.l1 k (i : Int) a b c l m e q) r := by
  intro d
  induction d with
  | zero =>
    intro a b c e f l m q i hm hq hd hi
    obtain ⟨r, hr⟩ := spoil2_ev q.length a b c e f l m q 0 hq (by omega) (by omega)
    refine ⟨r, Evt.step ?_⟩
    simp only [whirligiglaw09_spoil.l1]
    exact Evt.ite_neg (by omega) hr
  | succ d ih =>
    intro a b c e f l m q i hm hq hd hi
    obtain ⟨r, hr⟩ := ih a b c e f l (m.set i ⟨7, 7⟩) q (i + 1) (by rw [List.length_set]; exact hm) hq (by rw [List.length_set]; omega) (by rw [List.length_set]; omega)
    refine ⟨r, Evt.step ?_⟩
    simp only [whirligiglaw09_spoil.l1]
    refine Evt.ite_pos (by omega) (Evt.ite_pos (by omega) ?_)
    rw [wrap64_in _ (by omega) (by omega), Int.toNat_natCast]
    exact hr
theorem spoil0_ev : ∀ (d : Nat) (a b c e f : Int) (l : List Int) (m : List S63) (q : List Int) (i : Nat), l.length ≤ 1000 → m.length ≤ 1000 → q.length ≤ 1000 → l.length - i = d → i ≤ l.length → ∃ r, Evt (fun k => whirligiglaw09_spoil.l0 k (i : Int) a b c l m e q) r := by
  intro d
  induction d with
  | zero =>
    intro a b c e f l m q i hl hm hq hd hi
    obtain ⟨r, hr⟩ := spoil1_ev m.length a b c e f l m q 0 hm hq (by omega) (by omega)
    refine ⟨r, Evt.step ?_⟩
    simp only [whirligiglaw09_spoil.l0]
    exact Evt.ite_neg (by omega) hr
  | succ d ih =>
    intro a b c e f l m q i hl hm hq hd hi
    obtain ⟨r, hr⟩ := ih a b c e f (l.set i 7) m q (i + 1) (by rw [List.length_set]; exact hl) hm hq (by rw [List.length_set]; omega) (by rw [List.length_set]; omega)
    refine ⟨r, Evt.step ?_⟩
    simp only [whirligiglaw09_spoil.l0]
    refine Evt.ite_pos (by omega) (Evt.ite_pos (by omega) ?_)
    rw [wrap64_in _ (by omega) (by omega), Int.toNat_natCast]
    exact hr
theorem spoil_ev (a b c e : Int) (l : List Int) (m : List S63) (q : List Int) (hl : l.length ≤ 1000) (hm : m.length ≤ 1000) (hq : q.length ≤ 1000) : ∃ r, Evt (fun k => whirligiglaw09_spoil.f k a b c l m e q) r :=
  spoil0_ev l.length a b c e e l m q 0 hl hm hq (by omega) (by omega)
theorem addR_len (l m : List S63) : (addR l m).1.length ≤ 8 := by
  unfold addR
  split
  · split
    · split
      · simp
      · simp; omega
    · simp
  · simp
theorem doT_len (p m o : Int) (l : List Int) (c : List S63) (f : Int) (q : List Int) (sp sm so : Int) (add del : List S63) (cl : Bool) (pre : List Int) (hq : q.length ≤ 100) :
    (doT p m o l c f q sp sm so add del cl pre).2.2.2.1.length ≤ 100 ∧ (doT p m o l c f q sp sm so add del cl pre).2.2.2.2.1.length ≤ 100 ∧ (doT p m o l c f q sp sm so add del cl pre).2.2.2.2.2.2.1.length ≤ 100 := by
  unfold doT noD
  have hA := addR_len (delR (if cl = true then [] else c) del).1 add
  generalize addR (delR (if cl = true then [] else c) del).1 add = A at *
  split
  · split
    · split
      · refine ⟨?_, ?_, hq⟩
        · show (pre ++ l).length ≤ 100
          rw [List.length_append]; omega
        · show A.1.length ≤ 100
          omega
      · simp
    · simp
  · simp
theorem ownL_ev : ∀ (d : Nat) (t : List UInt8) (x : S30) (s : S37) (i : Nat), fewX x → s.f6.length ≤ 100 → txX x = t → s.f6.length - i = d → i ≤ s.f6.length →
    Evt (fun k => whirligiglaw09_AttrOwn.l0 k (tx t) ([] ++ s.f6) (i : Int) x.f0 x.f1 x.f2 x.f3 x.f4 x.f5 x.f6 s.f0 s.f1 s.f2 s.f3 s.f4 s.f5 s.f6) true := by
  intro d
  induction d with
  | zero =>
    intro t x s i hx hs ht hd hi
    refine Evt.step ?_
    simp only [whirligiglaw09_AttrOwn.l0, List.nil_append]
    refine Evt.ite_neg (by omega) (Evt.bind (textX_ev x hx) (Evt.ite_pos (by rw [ht]) (Evt.bind livesT_ev (Evt.pure _))))
  | succ d ih =>
    intro t x s i hx hs ht hd hi
    have hn := ih t x s (i + 1) hx hs ht (by omega) (by omega)
    refine Evt.step ?_
    simp only [whirligiglaw09_AttrOwn.l0, List.nil_append] at hn ⊢
    refine Evt.ite_pos (by omega) (Evt.ite_pos (by omega) (Evt.ite_pos (by omega) (Evt.ite_pos (by simp) ?_)))
    rw [wrap64_in _ (by omega) (by omega)]
    exact hn
theorem AttrOwn (x0 : S30) (x1 : S37) (ok_0 : (ok30) x0) (ok_1 : (ok37) x1) : ∃ k, Go.Proofs.Ytnnlbofmlfafhaa.P.whirligiglaw09_AttrOwn.f k x0.f0 x0.f1 x0.f2 x0.f3 x0.f4 x0.f5 x0.f6 x1.f0 x1.f1 x1.f2 x1.f3 x1.f4 x1.f5 x1.f6 = some true := by
  refine Evt.ex (g := fun k => Go.Proofs.Ytnnlbofmlfafhaa.P.whirligiglaw09_AttrOwn.f k x0.f0 x0.f1 x0.f2 x0.f3 x0.f4 x0.f5 x0.f6 x1.f0 x1.f1 x1.f2 x1.f3 x1.f4 x1.f5 x1.f6) ?_
  unfold whirligiglaw09_AttrOwn.f
  have T : Evt (fun k => whirligiglaw09_AttrOwn.j0 k true x0.f0 x0.f1 x0.f2 x0.f3 x0.f4 x0.f5 x0.f6 x1.f0 x1.f1 x1.f2 x1.f3 x1.f4 x1.f5 x1.f6) true := by
    refine Evt.step ?_
    simp only [whirligiglaw09_AttrOwn.j0]
    exact Evt.ite_pos trivial (Evt.bind livesT_ev (Evt.pure _))
  refine Evt.bindc (few_is x0) ?_
  by_cases h0 : x0.f3.length ≤ 100 ∧ x0.f4.length ≤ 100 ∧ x0.f6.length ≤ 100
  · refine Evt.ite_pos (decide_eq_true h0) (Evt.bindc (fewSet_is x1) ?_)
    by_cases h1 : x1.f3.length ≤ 100 ∧ x1.f4.length ≤ 100 ∧ x1.f6.length ≤ 100
    · rw [decide_eq_true h1]
      refine Evt.step ?_
      simp only [whirligiglaw09_AttrOwn.j0]
      have hcp : attr_Copy.f x0.f0 x0.f1 x0.f2 x0.f3 x0.f4 x0.f5 x0.f6 = some (x0.f0, x0.f1, x0.f2, x0.f3, x0.f4, x0.f5, x0.f6) := by
        unfold attr_Copy.f attr_cloned_int.f api_Comm_59.f
        rw [if_pos (by omega), Option.bind_some, if_pos (by omega), Option.bind_some, if_pos (by omega), Option.bind_some]
      have hsame := sameX_ev x0 x0 h0
      rw [show (attC x0 x0 == 0) = true from by rw [attC_ord.self]; rfl] at hsame
      obtain ⟨r1, hr1⟩ := spoil_ev x0.f0 x0.f1 x0.f2 x0.f5 x0.f3 x0.f4 x0.f6 (by omega) (by omega) (by omega)
      have hdl := doT_len x0.f0 x0.f1 x0.f2 x0.f3 x0.f4 x0.f5 x0.f6 x1.f0 x1.f1 x1.f2 x1.f3 x1.f4 x1.f5 x1.f6 h0.2.2
      have hdo := attrDo_ev x0.f0 x0.f1 x0.f2 x0.f3 x0.f4 x0.f5 x0.f6 x1.f0 x1.f1 x1.f2 x1.f3 x1.f4 x1.f5 x1.f6 h0.1 h0.2.1 h0.2.2 h1.1 h1.2.1 h1.2.2
      generalize doT x0.f0 x0.f1 x0.f2 x0.f3 x0.f4 x0.f5 x0.f6 x1.f0 x1.f1 x1.f2 x1.f3 x1.f4 x1.f5 x1.f6 = D at *
      obtain ⟨r2, hr2⟩ := spoil_ev D.1 D.2.1 D.2.2.1 D.2.2.2.2.2.1 D.2.2.2.1 D.2.2.2.2.1 D.2.2.2.2.2.2.1 (by omega) (by omega) (by omega)
      refine Evt.ite_neg (by simp) (Evt.bind (textX_ev x0 h0) (Evt.bindc hcp (Evt.bind hsame (Evt.ite_pos (by simp) (Evt.ite_pos (by simp; omega) (Evt.bind hdo (Evt.bind hr1 (Evt.bind hr2 ?_))))))))
      exact ownL_ev x1.f6.length _ x0 x1 0 h0 h1.2.2 rfl (by omega) (by omega)
    · rw [decide_eq_false h1]; exact T
  · exact Evt.ite_neg (by simpa using h0) T
end Go.Proofs.Ytnnlbofmlfafhaa.Pure

end
