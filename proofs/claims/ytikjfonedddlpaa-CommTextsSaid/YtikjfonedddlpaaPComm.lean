/- Communities: which may be, their sets, their order and their texts, in lists and numbers alone. -/
import Derived.Test.YtikjfonedddlpaaPB
import Derived.Test.YtikjfonedddlpaaKdW
import Derived.Test.YtikjfonedddlpaaPSet
import Derived.Test.YtikjfonedddlpaaPTx
import Derived.Test.YtikjfonedddlpaaPx0
import Derived.Test.YtikjfonedddlpaaPx10
import Derived.Test.YtikjfonedddlpaaPx14
import Derived.Test.YtikjfonedddlpaaPx15
import Derived.Test.YtikjfonedddlpaaPx2
import Derived.Test.YtikjfonedddlpaaPx22
import Derived.Test.YtikjfonedddlpaaPx23
import Derived.Test.YtikjfonedddlpaaPx5
import Derived.Test.YtikjfonedddlpaaPx7
import Derived.Test.YtikjfonedddlpaaPx8
import Derived.Test.YtikjfonedddlpaaPx9
namespace Go.Proofs.Ytikjfonedddlpaa.P
open Go.RowKit Go.Proofs.YtikjfonedddlpaaW.PrintWords Go.Proofs.YtikjfonedddlpaaW.PrintLast Go.Proofs.YtikjfonedddlpaaW.PrintMore
set_option linter.unusedVariables false
set_option linter.unusedSimpArgs false

theorem before_is (a b c d : Int) : whirligigref03_Before.f a b c d = some (decide (orI (cmpI a c) (cmpI b d) < 0)) := by
  unfold whirligigref03_Before.f
  by_cases h : a < c
  · rw [if_pos h, show cmpI a c = -1 from by simp [cmpI, h]]; rfl
  · rw [if_neg h]
    by_cases h2 : a = c
    · rw [if_pos h2, cmpI_zero.2 h2]
      unfold orI cmpI
      by_cases h3 : b < d
      · simp [h3]
      · simp [h3]; split <;> omega
    · rw [if_neg h2, show cmpI a c = 1 from by unfold cmpI; rw [if_neg h, if_pos (by omega)]]; rfl
theorem ref03Cmp_ev : ∀ (d : Nat) (a b : List S23) (i : Nat), a.length ≤ 1000 → a.length = b.length → a.length - i = d → i ≤ a.length → Evt (fun k => whirligigref03_Compare.l0 k a b (i : Int)) (cmpLst ordC (a.drop i) (b.drop i)) := by
  intro d
  induction d with
  | zero =>
    intro a b i hl he hd hi
    refine Evt.step ?_
    simp only [whirligigref03_Compare.l0]
    refine Evt.ite_neg (by omega) (Evt.of fun k => ?_)
    rw [show a.drop i = [] from List.drop_eq_nil_of_le (by omega), show b.drop i = [] from List.drop_eq_nil_of_le (by omega)]; rfl
  | succ d ih =>
    intro a b i hl hab hd hi
    refine Evt.step ?_
    simp only [whirligigref03_Compare.l0]
    obtain ⟨x, hx, he, hdr⟩ := pat (l := a) (i := i) (by omega)
    obtain ⟨y, _, hy, hdy⟩ := pat (l := b) (i := i) (by omega)
    refine Evt.ite_pos (by omega) (Evt.ite_pos (by omega) (Evt.ite_pos (by omega) ?_))
    rw [hdr, hdy, rdC_at he, rdC_at hy]
    simp only [cmpLst]
    refine Evt.bindc (before_is _ _ _ _) ?_
    have ea : orI (cmpI x.f0 y.f0) (cmpI x.f1 y.f1) = ordC x y := rfl
    have eb : orI (cmpI y.f0 x.f0) (cmpI y.f1 x.f1) = ordC y x := rfl
    rw [ea]
    have tri : ordC x y = -1 ∨ ordC x y = 0 ∨ ordC x y = 1 := by
      unfold ordC orI
      by_cases h : cmpI x.f0 y.f0 ≠ 0
      · rw [if_pos h]; exact cmpI_tri _ _
      · rw [if_neg h]; exact cmpI_tri _ _
    by_cases h1 : ordC x y < 0
    · rw [if_pos (by omega), show ordC x y = -1 from by omega]
      exact Evt.ite_pos (by simp) (Evt.of fun k => rfl)
    · refine Evt.ite_neg (by simpa using h1) ?_
      refine Evt.bindc (before_is _ _ _ _) ?_
      rw [eb, ordC_ord.1 x y]
      by_cases h2 : 0 < ordC x y
      · rw [if_pos (by omega), show ordC x y = 1 from by omega]
        exact Evt.ite_pos (by simp) (Evt.of fun k => rfl)
      · rw [if_neg (by omega), show ordC x y = 0 from by omega]
        refine Evt.ite_neg (by simp) ?_
        rw [wrap64_in _ (by omega) (by omega)]
        exact ih a b (i + 1) hl hab (by omega) (by omega)
theorem refComm_ev (a b : List S23) (ha : a.length ≤ 1000) : Evt (fun k => whirligigref03_Compare.f k a b) (cmpCL a b) := by
  unfold whirligigref03_Compare.f cmpCL orI
  by_cases h : (a.length : Int) < (b.length : Int)
  · rw [show cmpI (a.length : Int) (b.length : Int) = -1 from by simp [cmpI]; omega]
    exact Evt.ite_pos h (Evt.of fun k => rfl)
  · refine Evt.ite_neg h ?_
    by_cases h2 : (a.length : Int) > (b.length : Int)
    · rw [show cmpI (a.length : Int) (b.length : Int) = 1 from by unfold cmpI; rw [if_neg h, if_pos h2]]
      exact Evt.ite_pos h2 (Evt.of fun k => rfl)
    · rw [show cmpI (a.length : Int) (b.length : Int) = 0 from by unfold cmpI; rw [if_neg h, if_neg h2]]
      exact Evt.ite_neg h2 (ref03Cmp_ev a.length a b 0 ha (by omega) (by omega) (by omega))
theorem refCommMay_is (a b : Int) : whirligigref03_May.f a b = some (mayCB a b) := by
  unfold whirligigref03_May.f mayCB
  by_cases h1 : a > 0
  · rw [if_pos h1]
    by_cases h2 : a < 65536
    · rw [if_pos h2]
      by_cases h3 : b ≥ 0
      · rw [if_pos h3, decide_eq_true (show 1 ≤ a by omega), decide_eq_true (show a ≤ 65535 by omega), decide_eq_true (show 0 ≤ b by omega), Bool.true_and, Bool.true_and, Bool.true_and]; exact congrArg some (decide_eq_decide.2 (by omega))
      · rw [if_neg h3, decide_eq_false (show ¬ 0 ≤ b by omega)]; simp
    · rw [if_neg h2, decide_eq_false (show ¬ a ≤ 65535 by omega)]; simp
  · rw [if_neg h1, decide_eq_false (show ¬ 1 ≤ a by omega)]; simp
theorem refSetL_ev : ∀ (d : Nat) (l : List S23) (i : Nat), l.length ≤ 1000 → l.length - i = d → i ≤ l.length → i ≤ 8 → Evt (fun k => whirligigref03_Set.l0 k l (i : Int)) (decide (l.length ≤ 8) && stepsB (prevC l i) (l.drop i)) := by
  intro d
  induction d with
  | zero =>
    intro l i hl hd hi h8
    refine Evt.step ?_
    simp only [whirligigref03_Set.l0]
    refine Evt.ite_neg (by omega) (Evt.of fun k => ?_)
    rw [List.drop_eq_nil_of_le (by omega), decide_eq_true (by omega)]; rfl
  | succ d ih =>
    intro l i hl hd hi h8
    refine Evt.step ?_
    simp only [whirligigref03_Set.l0]
    obtain ⟨x, hx, he, hdr⟩ := pat (l := l) (i := i) (by omega)
    refine Evt.ite_pos (by omega) ?_
    by_cases h : i = 8
    · refine Evt.ite_pos (by omega) (Evt.of fun k => ?_)
      rw [decide_eq_false (by omega)]; rfl
    refine Evt.ite_neg (by omega) (Evt.ite_pos (by omega) ?_)
    have hn := ih l (i + 1) hl (by omega) (by omega) (by omega)
    rw [prevC_succ, he] at hn
    rw [rdC_at he, hdr]
    refine Evt.bindc (refCommMay_is _ _) ?_
    simp only [stepsB]
    by_cases hb : mayCB x.f0 x.f1 = true
    · refine Evt.ite_pos hb ?_
      rw [hb, Bool.true_and, wrap64_in ((i : Int) + 1) (by omega) (by omega)]
      by_cases h0 : i = 0
      · subst h0
        refine Evt.ite_neg (by simp) ?_
        exact hn
      · obtain ⟨q, hq, hqe, _⟩ := pat (l := l) (i := i - 1) (by omega)
        have hp : prevC l i = some q := by unfold prevC; rw [if_neg h0, hqe]
        rw [hp, wrap64_in ((i : Int) - 1) (by omega) (by omega), show ((i : Int) - 1) = ((i - 1 : Nat) : Int) by omega]
        refine Evt.ite_pos (by omega) (Evt.ite_pos (by omega) (Evt.ite_pos (by omega) ?_))
        rw [rdC_at hqe]
        refine Evt.bindc (before_is _ _ _ _) ?_
        have ea : orI (cmpI q.f0 x.f0) (cmpI q.f1 x.f1) = ordC q x := rfl
        rw [ea]
        by_cases hc : ordC q x < 0
        · refine Evt.ite_pos (by simpa using hc) ?_
          simp only [hc, decide_true, Bool.true_and]
          exact hn
        · refine Evt.ite_neg (by simpa using hc) (Evt.of fun k => ?_)
          simp [hc]
    · refine Evt.ite_neg hb (Evt.of fun k => ?_)
      rw [Bool.eq_false_iff.mpr hb]; simp
theorem refSet_ev (l : List S23) (hl : l.length ≤ 1000) : Evt (fun k => whirligigref03_Set.f k l) (setB l) := refSetL_ev l.length l 0 hl (by omega) (by omega) (by omega)

theorem Evt.cast {α : Type} {g : Nat → Option α} {r s : α} (h : Evt g r) (e : r = s) : Evt g s := e ▸ h
theorem tx_def (l : List UInt8) : (⟨l.toArray⟩ : ByteArray) = tx l := rfl
def dg (n : Int) : List UInt8 := dig n.toNat
/-- texts with a blank between them -/
def jn : List (List UInt8) → List UInt8
  | [] => []
  | x :: l => x ++ (l.map (32 :: ·)).flatten
theorem jn_snoc (L : List (List UInt8)) (u : List UInt8) : jn (L ++ [u]) = if L = [] then u else jn L ++ 32 :: u := by
  cases L with
  | nil => simp [jn]
  | cons x l => simp [jn]
theorem jn_join (L : List (List UInt8)) : Lib.join L [32] = jn L := by
  cases L with
  | nil => rfl
  | cons x l =>
    induction l generalizing x with
    | nil => simp [Lib.join, List.intercalate, jn]
    | cons y l ih =>
      have := ih y
      simp [Lib.join, List.intercalate, jn] at this ⊢
      exact this
theorem jn_len (m : Nat) (L : List (List UInt8)) (h : ∀ u, u ∈ L → u.length ≤ m) : (jn L).length ≤ L.length * (m + 1) := by
  cases L with
  | nil => simp [jn]
  | cons x l =>
    have hx := h x (by simp)
    have : ∀ l : List (List UInt8), (∀ u, u ∈ l → u.length ≤ m) → ((l.map (32 :: ·)).flatten).length ≤ l.length * (m + 1) := by
      intro l
      induction l with
      | nil => intro _; simp
      | cons y l ih =>
        intro h
        have h1 := h y (by simp)
        have h2 := ih (fun u hu => h u (by simp [hu]))
        rw [List.map_cons, List.flatten_cons, List.length_append, List.length_cons, List.length_cons, Nat.succ_mul]
        omega
    have h3 := this l (fun u hu => h u (by simp [hu]))
    simp only [jn]
    rw [List.length_append, List.length_cons, Nat.succ_mul]
    omega
theorem join_is (L : List (List UInt8)) (h : L.length ≤ 100) (h2 : (jn L).length ≤ 10000) : strings_Join.f (L.map tx) (⟨#[32]⟩ : ByteArray) = some (tx (jn L)) := by
  unfold strings_Join.f
  have e : (L.map tx).map (·.data.toList) = L := by
    rw [List.map_map]
    have : ((fun x : ByteArray => x.data.toList) ∘ tx) = id := by funext l; simp [tx]
    rw [this, List.map_id]
  have e2 : (⟨#[32]⟩ : ByteArray).data.toList = [32] := rfl
  rw [e, e2, jn_join, if_pos ⟨by rw [List.length_map]; omega, by omega⟩]; rfl
theorem dg5 {n : Int} (h : n ≤ 65535) : (dg n).length ≤ 5 := dig_len_pow 4 _ (by simp; omega)
theorem dg7 {n : Int} (h : n ≤ 1048576) : (dg n).length ≤ 7 := dig_len_pow 6 _ (by simp; omega)
theorem cDig_is (n : Int) (h0 : 0 ≤ n) (h1 : n ≤ 1048576) : comm_digits.f n = some (tx (dg n)) := by unfold comm_digits.f; rw [if_pos ⟨h0, by omega⟩]; rfl
theorem num_ev (n : Int) (h0 : 0 ≤ n) (h1 : n ≤ 1048576) : Evt (fun k => whirligigref01_Number.f k n) (tx (dg n)) := refNumber_ev n h0 (by omega)
def cT (a b : Int) : List UInt8 :=
  if a = 65535 ∧ b = 65281 then [110, 111, 45, 101, 120, 112, 111, 114, 116] else if a = 65535 ∧ b = 65282 then [110, 111, 45, 97, 100, 118, 101, 114, 116, 105, 115, 101] else if a = 65535 ∧ b = 65283 then [108, 111, 99, 97, 108] else dg a ++ 58 :: dg b
def cTx (x : S23) : List UInt8 := cT x.f0 x.f1
theorem cT_len {a b : Int} (h : mayCB a b = true) : (cT a b).length ≤ 12 := by
  obtain ⟨h1, h2, h3, h4⟩ := mayCB_iff.1 h
  have l1 := dg5 h2
  have l2 := dg5 h4
  unfold cT
  split
  · simp
  · split
    · simp
    · split
      · simp
      · rw [List.length_append, List.length_cons]; omega
theorem commText_is (a b : Int) (h : mayCB a b = true) : comm_Text.f a b = some (tx (cT a b)) := by
  obtain ⟨h1, h2, h3, h4⟩ := mayCB_iff.1 h
  have l1 := dg5 h2
  have l2 := dg5 h4
  unfold comm_Text.f
  rw [commMay_is, h]
  simp only [Option.bind_some, comm_NoExport.f, comm_NoAdvertise.f, comm_Local.f, if_true]
  unfold cT
  by_cases c1 : a = 65535 ∧ b = 65281
  · rw [if_pos c1, if_pos (by simp [c1])]; rfl
  · rw [if_neg c1, if_neg (by simpa using c1)]
    by_cases c2 : a = 65535 ∧ b = 65282
    · rw [if_pos c2, if_pos (by simp [c2])]; rfl
    · rw [if_neg c2, if_neg (by simpa using c2)]
      by_cases c3 : a = 65535 ∧ b = 65283
      · rw [if_pos c3, if_pos (by simp [c3])]; rfl
      · rw [if_neg c3, if_neg (by simpa using c3), cDig_is a (by omega) (by omega), cDig_is b (by omega) (by omega)]
        simp only [Option.bind_some, tx_def, tx_app]
        rw [if_pos (by rw [tx_size]; omega), if_pos (by simp only [tx_size, List.length_append, List.length_cons, List.length_nil]; omega), List.append_assoc, List.singleton_append]
theorem refCommText_ev (a b : Int) (h : mayCB a b = true) : Evt (fun k => whirligigref03_Text.f k a b) (tx (cT a b)) := by
  obtain ⟨h1, h2, h3, h4⟩ := mayCB_iff.1 h
  have l1 := dg5 h2
  have l2 := dg5 h4
  have J2 : ∀ x : Bool, (x = true ↔ a = 65535 ∧ b = 65283) → Evt (fun k => whirligigref03_Text.j2 k x a b) (tx (if a = 65535 ∧ b = 65283 then [108, 111, 99, 97, 108] else dg a ++ 58 :: dg b)) := by
    intro x hx
    refine Evt.step ?_
    simp only [whirligigref03_Text.j2]
    by_cases c : a = 65535 ∧ b = 65283
    · rw [if_pos c]; exact Evt.ite_pos (hx.2 c) (Evt.of fun k => rfl)
    · rw [if_neg c]
      refine Evt.ite_neg (fun e => c (hx.1 e)) (Evt.bind (num_ev a (by omega) (by omega)) ?_)
      refine Evt.ite_pos (by rw [tx_size]; omega) (Evt.bind (num_ev b (by omega) (by omega)) ?_)
      simp only [tx_def, tx_app]
      refine Evt.ite_pos (by simp only [tx_size, List.length_append, List.length_cons, List.length_nil]; omega) ?_
      rw [List.append_assoc, List.singleton_append]
      exact Evt.pure _
  have J1 : ∀ x : Bool, (x = true ↔ a = 65535 ∧ b = 65282) → Evt (fun k => whirligigref03_Text.j1 k x a b) (tx (if a = 65535 ∧ b = 65282 then [110, 111, 45, 97, 100, 118, 101, 114, 116, 105, 115, 101] else if a = 65535 ∧ b = 65283 then [108, 111, 99, 97, 108] else dg a ++ 58 :: dg b)) := by
    intro x hx
    refine Evt.step ?_
    simp only [whirligigref03_Text.j1]
    by_cases c : a = 65535 ∧ b = 65282
    · rw [if_pos c]; exact Evt.ite_pos (hx.2 c) (Evt.of fun k => rfl)
    · rw [if_neg c]
      refine Evt.ite_neg (fun e => c (hx.1 e)) ?_
      by_cases e : a = 65535
      · exact Evt.ite_pos e (J2 _ (by simp [e]))
      · exact Evt.ite_neg e (J2 _ (by simp [e]))
  have J0 : ∀ x : Bool, (x = true ↔ a = 65535 ∧ b = 65281) → Evt (fun k => whirligigref03_Text.j0 k x a b) (tx (cT a b)) := by
    intro x hx
    refine Evt.step ?_
    simp only [whirligigref03_Text.j0]
    unfold cT
    by_cases c : a = 65535 ∧ b = 65281
    · rw [if_pos c]; exact Evt.ite_pos (hx.2 c) (Evt.of fun k => rfl)
    · rw [if_neg c]
      refine Evt.ite_neg (fun e => c (hx.1 e)) ?_
      by_cases e : a = 65535
      · exact Evt.ite_pos e (J1 _ (by simp [e]))
      · exact Evt.ite_neg e (J1 _ (by simp [e]))
  unfold whirligigref03_Text.f
  refine Evt.bindc (refCommMay_is a b) (Evt.ite_pos h ?_)
  by_cases e : a = 65535
  · exact Evt.ite_pos e (J0 _ (by simp [e]))
  · exact Evt.ite_neg e (J0 _ (by simp [e]))
theorem jnC_len (l : List S23) (h : ∀ x, x ∈ l → mayCB x.f0 x.f1 = true) : (jn (l.map cTx)).length ≤ l.length * 13 := by
  have := jn_len 12 (l.map cTx) (fun u hu => by obtain ⟨x, hx, rfl⟩ := List.mem_map.1 hu; exact cT_len (h x hx))
  rwa [List.length_map] at this
theorem commTL_ev : ∀ (d : Nat) (l : List S23) (i : Nat), l.length ≤ 8 → (∀ x, x ∈ l → mayCB x.f0 x.f1 = true) → l.length - i = d → i ≤ l.length →
    Evt (fun k => comm_Texts.l0 k (((l.take i).map cTx).map tx) l (l.length : Int) (i : Int)) (tx (jn (l.map cTx))) := by
  intro d
  induction d with
  | zero =>
    intro l i hl ha hd hi
    refine Evt.step ?_
    simp only [comm_Texts.l0]
    refine Evt.ite_neg (by omega) ?_
    rw [List.take_of_length_le (by omega)]
    refine Evt.bindc (join_is _ (by rw [List.length_map]; omega) ?_) (Evt.pure _)
    have := jnC_len l ha
    omega
  | succ d ih =>
    intro l i hl ha hd hi
    refine Evt.step ?_
    simp only [comm_Texts.l0]
    obtain ⟨x, hx, he, hdr⟩ := pat (l := l) (i := i) (by omega)
    refine Evt.ite_pos (by omega) (Evt.ite_pos (by omega) (Evt.ite_pos (by omega) ?_))
    rw [rdC_at he]
    refine Evt.bindc (commText_is _ _ (ha x hx)) ?_
    refine Evt.ite_pos (by rw [List.length_map, List.length_map, List.length_take]; omega) ?_
    rw [wrap64_in _ (by omega) (by omega)]
    have hn := ih l (i + 1) hl ha (by omega) (by omega)
    rw [take_at he, List.map_append, List.map_append] at hn
    exact hn
theorem commTexts_ev (l : List S23) (h : setB l = true) : Evt (fun k => comm_Texts.f k l) (tx (jn (l.map cTx))) := by
  obtain ⟨h1, h2⟩ := setB_iff h
  unfold comm_Texts.f
  refine Evt.bind (commSet_ev l (by omega)) (Evt.ite_pos h ?_)
  exact commTL_ev l.length l 0 h1 h2 (by omega) (by omega)
theorem refCommTL_ev : ∀ (d : Nat) (l : List S23) (i : Nat), l.length ≤ 8 → (∀ x, x ∈ l → mayCB x.f0 x.f1 = true) → l.length - i = d → i ≤ l.length →
    Evt (fun k => whirligigref03_Texts.l0 k l (tx (jn ((l.take i).map cTx))) (i : Int)) (tx (jn (l.map cTx))) := by
  intro d
  induction d with
  | zero =>
    intro l i hl ha hd hi
    refine Evt.step ?_
    simp only [whirligigref03_Texts.l0]
    refine Evt.ite_neg (by omega) ?_
    rw [List.take_of_length_le (by omega)]
    exact Evt.pure _
  | succ d ih =>
    intro l i hl ha hd hi
    refine Evt.step ?_
    simp only [whirligigref03_Texts.l0]
    obtain ⟨x, hx, he, hdr⟩ := pat (l := l) (i := i) (by omega)
    have hl1 := jnC_len (l.take i) (fun y hy => ha y (List.mem_of_mem_take hy))
    rw [List.length_take] at hl1
    have hl2 : (cTx x).length ≤ 12 := cT_len (ha x hx)
    have hn := ih l (i + 1) hl ha (by omega) (by omega)
    rw [take_at he, List.map_append, List.map_cons, List.map_nil, jn_snoc] at hn
    refine Evt.ite_pos (by omega) ?_
    rw [rdC_at he]
    by_cases h0 : i = 0
    · subst h0
      refine Evt.ite_neg (by omega) (Evt.ite_pos (by omega) (Evt.bind (refCommText_ev _ _ (ha x hx)) ?_))
      refine Evt.ite_pos (by rw [tx_size, tx_size]; show _ + (cTx x).length ≤ _; omega) ?_
      rw [wrap64_in _ (by omega) (by omega), tx_app]
      rw [List.take_zero] at hn ⊢
      exact hn
    · have hne : (l.take i).map cTx ≠ [] := by
        intro e
        have := congrArg List.length e
        rw [List.length_map, List.length_take, List.length_nil] at this
        omega
      rw [if_neg hne] at hn
      refine Evt.ite_pos (by omega) (Evt.ite_pos (by rw [tx_size]; omega) (Evt.ite_pos (by omega) (Evt.bind (refCommText_ev _ _ (ha x hx)) ?_)))
      simp only [tx_def, tx_app]
      refine Evt.ite_pos (by simp only [tx_size, List.length_append, List.length_cons, List.length_nil]; show _ + (cTx x).length ≤ _; omega) ?_
      rw [wrap64_in _ (by omega) (by omega), List.append_assoc, List.singleton_append]
      exact hn
theorem refCommTexts_ev (l : List S23) (h : setB l = true) : Evt (fun k => whirligigref03_Texts.f k l) (tx (jn (l.map cTx))) := by
  obtain ⟨h1, h2⟩ := setB_iff h
  unfold whirligigref03_Texts.f
  refine Evt.bind (refSet_ev l (by omega)) (Evt.ite_pos h ?_)
  exact refCommTL_ev l.length l 0 h1 h2 (by omega) (by omega)
end Go.Proofs.Ytikjfonedddlpaa.P
