/- Attributes' texts, in lists of bytes alone. -/
import Derived.Test.YtnnlbofmlfafhaaPAttrM
import Derived.Test.YtnnlbofmlfafhaaPTx
import Derived.Test.YtnnlbofmlfafhaaPx0
import Derived.Test.YtnnlbofmlfafhaaPx2
import Derived.Test.YtnnlbofmlfafhaaPx3
import Derived.Test.YtnnlbofmlfafhaaPx7
import Derived.Test.YtnnlbofmlfafhaaPx8
namespace Go.Proofs.Ytnnlbofmlfafhaa.P
open Go.RowKit Go.Proofs.YtnnlbofmlfafhaaW.PrintWords Go.Proofs.YtnnlbofmlfafhaaW.PrintLast Go.Proofs.YtnnlbofmlfafhaaW.PrintMore
set_option linter.unusedVariables false
set_option linter.unusedSimpArgs false

theorem Evt.cast {α : Type} {g : Nat → Option α} {r s : α} (h : Evt g r) (e : r = s) : Evt g s := e ▸ h
theorem tx_def (l : List UInt8) : (⟨l.toArray⟩ : ByteArray) = tx l := rfl
def dg (n : Int) : List UInt8 := dig n.toNat
/-- texts with a blank between them -/
def jn : List (List UInt8) → List UInt8
  | [] => []
  | x :: l => x ++ (l.map (32 :: ·)).flatten
theorem jn_snoc (L : List (List UInt8)) (u : List UInt8) : jn (L ++ [u]) = if L = [] then u else jn L ++ 32 :: u := by
  cases L with
  | nil => simp [jn]
  | cons x l => simp [jn]
theorem jn_join (L : List (List UInt8)) : Lib.join L [32] = jn L := by
  cases L with
  | nil => rfl
  | cons x l =>
    induction l generalizing x with
    | nil => simp [Lib.join, List.intercalate, jn]
    | cons y l ih =>
      have := ih y
      simp [Lib.join, List.intercalate, jn] at this ⊢
      exact this
theorem jn_len (m : Nat) (L : List (List UInt8)) (h : ∀ u, u ∈ L → u.length ≤ m) : (jn L).length ≤ L.length * (m + 1) := by
  cases L with
  | nil => simp [jn]
  | cons x l =>
    have hx := h x (by simp)
    have : ∀ l : List (List UInt8), (∀ u, u ∈ l → u.length ≤ m) → ((l.map (32 :: ·)).flatten).length ≤ l.length * (m + 1) := by
      intro l
      induction l with
      | nil => intro _; simp
      | cons y l ih =>
        intro h
        have h1 := h y (by simp)
        have h2 := ih (fun u hu => h u (by simp [hu]))
        rw [List.map_cons, List.flatten_cons, List.length_append, List.length_cons, List.length_cons, Nat.succ_mul]
        omega
    have h3 := this l (fun u hu => h u (by simp [hu]))
    simp only [jn]
    rw [List.length_append, List.length_cons, Nat.succ_mul]
    omega
theorem join_is (L : List (List UInt8)) (h : L.length ≤ 100) (h2 : (jn L).length ≤ 10000) : strings_Join.f (L.map tx) (⟨#[32]⟩ : ByteArray) = some (tx (jn L)) := by
  unfold strings_Join.f
  have e : (L.map tx).map (·.data.toList) = L := by
    rw [List.map_map]
    have : ((fun x : ByteArray => x.data.toList) ∘ tx) = id := by funext l; simp [tx]
    rw [this, List.map_id]
  have e2 : (⟨#[32]⟩ : ByteArray).data.toList = [32] := rfl
  rw [e, e2, jn_join, if_pos ⟨by rw [List.length_map]; omega, by omega⟩]; rfl
theorem dg5 {n : Int} (h : n ≤ 65535) : (dg n).length ≤ 5 := dig_len_pow 4 _ (by simp; omega)
theorem dg7 {n : Int} (h : n ≤ 1048576) : (dg n).length ≤ 7 := dig_len_pow 6 _ (by simp; omega)
theorem aDig_is (n : Int) (h0 : 0 ≤ n) (h1 : n ≤ 1048576) : attr_digits.f n = some (tx (dg n)) := by unfold attr_digits.f; rw [if_pos ⟨h0, by omega⟩]; rfl
theorem pDig_is (n : Int) (h0 : 0 ≤ n) (h1 : n ≤ 1048576) : aspath_digits.f n = some (tx (dg n)) := by unfold aspath_digits.f; rw [if_pos ⟨h0, by omega⟩]; rfl
theorem cDig_is (n : Int) (h0 : 0 ≤ n) (h1 : n ≤ 1048576) : comm_digits.f n = some (tx (dg n)) := by unfold comm_digits.f; rw [if_pos ⟨h0, by omega⟩]; rfl
theorem num_ev (n : Int) (h0 : 0 ≤ n) (h1 : n ≤ 1048576) : Evt (fun k => whirligigref01_Number.f k n) (tx (dg n)) := refNumber_ev n h0 (by omega)
theorem asB_iff {n : Int} : asB n = true ↔ 1 ≤ n ∧ n ≤ 65535 := by simp [asB]
theorem inB_iff {n a b : Int} : inB n a b = true ↔ a ≤ n ∧ n ≤ b := by simp [inB]
theorem jnN_len (l : List Int) (h : ∀ x, x ∈ l → asB x = true) : (jn (l.map dg)).length ≤ l.length * 6 := by
  have := jn_len 5 (l.map dg) (fun u hu => by obtain ⟨x, hx, rfl⟩ := List.mem_map.1 hu; exact dg5 (asB_iff.1 (h x hx)).2)
  rwa [List.length_map] at this

theorem pathTL_ev : ∀ (d : Nat) (l : List Int) (i : Nat), l.length ≤ 16 → (∀ x, x ∈ l → asB x = true) → l.length - i = d → i ≤ l.length →
    Evt (fun k => aspath_Text.l0 k (((l.take i).map dg).map tx) l (l.length : Int) (i : Int)) (tx (jn (l.map dg))) := by
  intro d
  induction d with
  | zero =>
    intro l i hl ha hd hi
    refine Evt.step ?_
    simp only [aspath_Text.l0]
    refine Evt.ite_neg (by omega) ?_
    rw [List.take_of_length_le (by omega)]
    refine Evt.bindc (join_is _ (by rw [List.length_map]; omega) ?_) (Evt.pure _)
    have := jnN_len l ha
    omega
  | succ d ih =>
    intro l i hl ha hd hi
    refine Evt.step ?_
    simp only [aspath_Text.l0]
    obtain ⟨x, hx, he, hdr⟩ := pat (l := l) (i := i) (by omega)
    have hx2 := asB_iff.1 (ha x hx)
    refine Evt.ite_pos (by omega) (Evt.ite_pos (by omega) (Evt.ite_pos (by omega) ?_))
    rw [rd_at he]
    refine Evt.bindc (pDig_is x (by omega) (by omega)) ?_
    refine Evt.ite_pos (by rw [List.length_map, List.length_map, List.length_take]; omega) ?_
    rw [wrap64_in _ (by omega) (by omega)]
    have hn := ih l (i + 1) hl ha (by omega) (by omega)
    rw [take_at he, List.map_append, List.map_append] at hn
    exact hn
theorem pathB_iff {l : List Int} : pathB l = true ↔ l.length ≤ 16 ∧ ∀ x, x ∈ l → asB x = true := by simp [pathB]
theorem pathText_ev (l : List Int) (h : pathB l = true) : Evt (fun k => aspath_Text.f k l) (tx (jn (l.map dg))) := by
  obtain ⟨h1, h2⟩ := pathB_iff.1 h
  unfold aspath_Text.f
  refine Evt.bindc (asMay_is l) (Evt.ite_pos h ?_)
  exact pathTL_ev l.length l 0 h1 h2 (by omega) (by omega)
theorem refPathTL_ev : ∀ (d : Nat) (l : List Int) (i : Nat), l.length ≤ 16 → (∀ x, x ∈ l → asB x = true) → l.length - i = d → i ≤ l.length →
    Evt (fun k => whirligigref04_Text.l0 k l (tx (jn ((l.take i).map dg))) (i : Int)) (tx (jn (l.map dg))) := by
  intro d
  induction d with
  | zero =>
    intro l i hl ha hd hi
    refine Evt.step ?_
    simp only [whirligigref04_Text.l0]
    refine Evt.ite_neg (by omega) ?_
    rw [List.take_of_length_le (by omega)]
    exact Evt.pure _
  | succ d ih =>
    intro l i hl ha hd hi
    refine Evt.step ?_
    simp only [whirligigref04_Text.l0]
    obtain ⟨x, hx, he, hdr⟩ := pat (l := l) (i := i) (by omega)
    have hx2 := asB_iff.1 (ha x hx)
    have hl1 := jnN_len (l.take i) (fun y hy => ha y (List.mem_of_mem_take hy))
    rw [List.length_take] at hl1
    have hl2 : (dg x).length ≤ 5 := dg5 hx2.2
    have hn := ih l (i + 1) hl ha (by omega) (by omega)
    rw [take_at he, List.map_append, List.map_cons, List.map_nil, jn_snoc] at hn
    refine Evt.ite_pos (by omega) ?_
    rw [rd_at he]
    by_cases h0 : i = 0
    · subst h0
      refine Evt.ite_neg (by omega) (Evt.ite_pos (by omega) (Evt.bind (num_ev x (by omega) (by omega)) ?_))
      refine Evt.ite_pos (by rw [tx_size, tx_size]; omega) ?_
      rw [wrap64_in _ (by omega) (by omega), tx_app]
      rw [List.take_zero] at hn ⊢
      exact hn
    · have hne : (l.take i).map dg ≠ [] := by
        intro e
        have := congrArg List.length e
        rw [List.length_map, List.length_take, List.length_nil] at this
        omega
      rw [if_neg hne] at hn
      refine Evt.ite_pos (by omega) (Evt.ite_pos (by rw [tx_size]; omega) (Evt.ite_pos (by omega) (Evt.bind (num_ev x (by omega) (by omega)) ?_)))
      simp only [tx_def, tx_app]
      refine Evt.ite_pos (by simp only [tx_size, List.length_append, List.length_cons, List.length_nil]; omega) ?_
      rw [wrap64_in _ (by omega) (by omega), List.append_assoc, List.singleton_append]
      exact hn
theorem refPathText_ev (l : List Int) (h : pathB l = true) : Evt (fun k => whirligigref04_Text.f k l) (tx (jn (l.map dg))) := by
  obtain ⟨h1, h2⟩ := pathB_iff.1 h
  unfold whirligigref04_Text.f
  refine Evt.bind (refPath_ev l (by omega)) (Evt.ite_pos h ?_)
  exact refPathTL_ev l.length l 0 h1 h2 (by omega) (by omega)

def cT (a b : Int) : List UInt8 :=
  if a = 65535 ∧ b = 65281 then [110, 111, 45, 101, 120, 112, 111, 114, 116] else if a = 65535 ∧ b = 65282 then [110, 111, 45, 97, 100, 118, 101, 114, 116, 105, 115, 101] else if a = 65535 ∧ b = 65283 then [108, 111, 99, 97, 108] else dg a ++ 58 :: dg b
def cTx (x : S63) : List UInt8 := cT x.f0 x.f1
theorem mayCB_iff {a b : Int} : mayCB a b = true ↔ 1 ≤ a ∧ a ≤ 65535 ∧ 0 ≤ b ∧ b ≤ 65535 := by simp [mayCB]
theorem cT_len {a b : Int} (h : mayCB a b = true) : (cT a b).length ≤ 12 := by
  obtain ⟨h1, h2, h3, h4⟩ := mayCB_iff.1 h
  have l1 := dg5 h2
  have l2 := dg5 h4
  unfold cT
  split
  · simp
  · split
    · simp
    · split
      · simp
      · rw [List.length_append, List.length_cons]; omega
theorem commText_is (a b : Int) (h : mayCB a b = true) : comm_Text.f a b = some (tx (cT a b)) := by
  obtain ⟨h1, h2, h3, h4⟩ := mayCB_iff.1 h
  have l1 := dg5 h2
  have l2 := dg5 h4
  unfold comm_Text.f
  rw [commMay_is, h]
  simp only [Option.bind_some, comm_NoExport.f, comm_NoAdvertise.f, comm_Local.f, if_true]
  unfold cT
  by_cases c1 : a = 65535 ∧ b = 65281
  · rw [if_pos c1, if_pos (by simp [c1])]; rfl
  · rw [if_neg c1, if_neg (by simpa using c1)]
    by_cases c2 : a = 65535 ∧ b = 65282
    · rw [if_pos c2, if_pos (by simp [c2])]; rfl
    · rw [if_neg c2, if_neg (by simpa using c2)]
      by_cases c3 : a = 65535 ∧ b = 65283
      · rw [if_pos c3, if_pos (by simp [c3])]; rfl
      · rw [if_neg c3, if_neg (by simpa using c3), cDig_is a (by omega) (by omega), cDig_is b (by omega) (by omega)]
        simp only [Option.bind_some, tx_def, tx_app]
        rw [if_pos (by rw [tx_size]; omega), if_pos (by simp only [tx_size, List.length_append, List.length_cons, List.length_nil]; omega), List.append_assoc, List.singleton_append]
theorem refCommText_ev (a b : Int) (h : mayCB a b = true) : Evt (fun k => whirligigref03_Text.f k a b) (tx (cT a b)) := by
  obtain ⟨h1, h2, h3, h4⟩ := mayCB_iff.1 h
  have l1 := dg5 h2
  have l2 := dg5 h4
  have J2 : ∀ x : Bool, (x = true ↔ a = 65535 ∧ b = 65283) → Evt (fun k => whirligigref03_Text.j2 k x a b) (tx (if a = 65535 ∧ b = 65283 then [108, 111, 99, 97, 108] else dg a ++ 58 :: dg b)) := by
    intro x hx
    refine Evt.step ?_
    simp only [whirligigref03_Text.j2]
    by_cases c : a = 65535 ∧ b = 65283
    · rw [if_pos c]; exact Evt.ite_pos (hx.2 c) (Evt.of fun k => rfl)
    · rw [if_neg c]
      refine Evt.ite_neg (fun e => c (hx.1 e)) (Evt.bind (num_ev a (by omega) (by omega)) ?_)
      refine Evt.ite_pos (by rw [tx_size]; omega) (Evt.bind (num_ev b (by omega) (by omega)) ?_)
      simp only [tx_def, tx_app]
      refine Evt.ite_pos (by simp only [tx_size, List.length_append, List.length_cons, List.length_nil]; omega) ?_
      rw [List.append_assoc, List.singleton_append]
      exact Evt.pure _
  have J1 : ∀ x : Bool, (x = true ↔ a = 65535 ∧ b = 65282) → Evt (fun k => whirligigref03_Text.j1 k x a b) (tx (if a = 65535 ∧ b = 65282 then [110, 111, 45, 97, 100, 118, 101, 114, 116, 105, 115, 101] else if a = 65535 ∧ b = 65283 then [108, 111, 99, 97, 108] else dg a ++ 58 :: dg b)) := by
    intro x hx
    refine Evt.step ?_
    simp only [whirligigref03_Text.j1]
    by_cases c : a = 65535 ∧ b = 65282
    · rw [if_pos c]; exact Evt.ite_pos (hx.2 c) (Evt.of fun k => rfl)
    · rw [if_neg c]
      refine Evt.ite_neg (fun e => c (hx.1 e)) ?_
      by_cases e : a = 65535
      · exact Evt.ite_pos e (J2 _ (by simp [e]))
      · exact Evt.ite_neg e (J2 _ (by simp [e]))
  have J0 : ∀ x : Bool, (x = true ↔ a = 65535 ∧ b = 65281) → Evt (fun k => whirligigref03_Text.j0 k x a b) (tx (cT a b)) := by
    intro x hx
    refine Evt.step ?_
    simp only [whirligigref03_Text.j0]
    unfold cT
    by_cases c : a = 65535 ∧ b = 65281
    · rw [if_pos c]; exact Evt.ite_pos (hx.2 c) (Evt.of fun k => rfl)
    · rw [if_neg c]
      refine Evt.ite_neg (fun e => c (hx.1 e)) ?_
      by_cases e : a = 65535
      · exact Evt.ite_pos e (J1 _ (by simp [e]))
      · exact Evt.ite_neg e (J1 _ (by simp [e]))
  unfold whirligigref03_Text.f
  refine Evt.bindc (refCommMay_is a b) (Evt.ite_pos h ?_)
  by_cases e : a = 65535
  · exact Evt.ite_pos e (J0 _ (by simp [e]))
  · exact Evt.ite_neg e (J0 _ (by simp [e]))
theorem steps_may : ∀ (l : List S63) (p : Option S63), stepsB p l = true → ∀ x, x ∈ l → mayCB x.f0 x.f1 = true := by
  intro l
  induction l with
  | nil => intro p _ x hx; simp at hx
  | cons y l ih =>
    intro p h x hx
    simp only [stepsB, Bool.and_eq_true] at h
    rcases List.mem_cons.1 hx with rfl | hx
    · exact h.1
    · exact ih _ h.2.2 x hx
theorem setB_iff {l : List S63} (h : setB l = true) : l.length ≤ 8 ∧ ∀ x, x ∈ l → mayCB x.f0 x.f1 = true := by
  simp only [setB, Bool.and_eq_true, decide_eq_true_eq] at h
  exact ⟨h.1, steps_may l none h.2⟩
theorem jnC_len (l : List S63) (h : ∀ x, x ∈ l → mayCB x.f0 x.f1 = true) : (jn (l.map cTx)).length ≤ l.length * 13 := by
  have := jn_len 12 (l.map cTx) (fun u hu => by obtain ⟨x, hx, rfl⟩ := List.mem_map.1 hu; exact cT_len (h x hx))
  rwa [List.length_map] at this
theorem commTL_ev : ∀ (d : Nat) (l : List S63) (i : Nat), l.length ≤ 8 → (∀ x, x ∈ l → mayCB x.f0 x.f1 = true) → l.length - i = d → i ≤ l.length →
    Evt (fun k => comm_Texts.l0 k (((l.take i).map cTx).map tx) l (l.length : Int) (i : Int)) (tx (jn (l.map cTx))) := by
  intro d
  induction d with
  | zero =>
    intro l i hl ha hd hi
    refine Evt.step ?_
    simp only [comm_Texts.l0]
    refine Evt.ite_neg (by omega) ?_
    rw [List.take_of_length_le (by omega)]
    refine Evt.bindc (join_is _ (by rw [List.length_map]; omega) ?_) (Evt.pure _)
    have := jnC_len l ha
    omega
  | succ d ih =>
    intro l i hl ha hd hi
    refine Evt.step ?_
    simp only [comm_Texts.l0]
    obtain ⟨x, hx, he, hdr⟩ := pat (l := l) (i := i) (by omega)
    refine Evt.ite_pos (by omega) (Evt.ite_pos (by omega) (Evt.ite_pos (by omega) ?_))
    rw [rdC_at he]
    refine Evt.bindc (commText_is _ _ (ha x hx)) ?_
    refine Evt.ite_pos (by rw [List.length_map, List.length_map, List.length_take]; omega) ?_
    rw [wrap64_in _ (by omega) (by omega)]
    have hn := ih l (i + 1) hl ha (by omega) (by omega)
    rw [take_at he, List.map_append, List.map_append] at hn
    exact hn
theorem commTexts_ev (l : List S63) (h : setB l = true) : Evt (fun k => comm_Texts.f k l) (tx (jn (l.map cTx))) := by
  obtain ⟨h1, h2⟩ := setB_iff h
  unfold comm_Texts.f
  refine Evt.bind (commSet_ev l (by omega)) (Evt.ite_pos h ?_)
  exact commTL_ev l.length l 0 h1 h2 (by omega) (by omega)
theorem refCommTL_ev : ∀ (d : Nat) (l : List S63) (i : Nat), l.length ≤ 8 → (∀ x, x ∈ l → mayCB x.f0 x.f1 = true) → l.length - i = d → i ≤ l.length →
    Evt (fun k => whirligigref03_Texts.l0 k l (tx (jn ((l.take i).map cTx))) (i : Int)) (tx (jn (l.map cTx))) := by
  intro d
  induction d with
  | zero =>
    intro l i hl ha hd hi
    refine Evt.step ?_
    simp only [whirligigref03_Texts.l0]
    refine Evt.ite_neg (by omega) ?_
    rw [List.take_of_length_le (by omega)]
    exact Evt.pure _
  | succ d ih =>
    intro l i hl ha hd hi
    refine Evt.step ?_
    simp only [whirligigref03_Texts.l0]
    obtain ⟨x, hx, he, hdr⟩ := pat (l := l) (i := i) (by omega)
    have hl1 := jnC_len (l.take i) (fun y hy => ha y (List.mem_of_mem_take hy))
    rw [List.length_take] at hl1
    have hl2 : (cTx x).length ≤ 12 := cT_len (ha x hx)
    have hn := ih l (i + 1) hl ha (by omega) (by omega)
    rw [take_at he, List.map_append, List.map_cons, List.map_nil, jn_snoc] at hn
    refine Evt.ite_pos (by omega) ?_
    rw [rdC_at he]
    by_cases h0 : i = 0
    · subst h0
      refine Evt.ite_neg (by omega) (Evt.ite_pos (by omega) (Evt.bind (refCommText_ev _ _ (ha x hx)) ?_))
      refine Evt.ite_pos (by rw [tx_size, tx_size]; show _ + (cTx x).length ≤ _; omega) ?_
      rw [wrap64_in _ (by omega) (by omega), tx_app]
      rw [List.take_zero] at hn ⊢
      exact hn
    · have hne : (l.take i).map cTx ≠ [] := by
        intro e
        have := congrArg List.length e
        rw [List.length_map, List.length_take, List.length_nil] at this
        omega
      rw [if_neg hne] at hn
      refine Evt.ite_pos (by omega) (Evt.ite_pos (by rw [tx_size]; omega) (Evt.ite_pos (by omega) (Evt.bind (refCommText_ev _ _ (ha x hx)) ?_)))
      simp only [tx_def, tx_app]
      refine Evt.ite_pos (by simp only [tx_size, List.length_append, List.length_cons, List.length_nil]; show _ + (cTx x).length ≤ _; omega) ?_
      rw [wrap64_in _ (by omega) (by omega), List.append_assoc, List.singleton_append]
      exact hn
theorem refCommTexts_ev (l : List S63) (h : setB l = true) : Evt (fun k => whirligigref03_Texts.f k l) (tx (jn (l.map cTx))) := by
  obtain ⟨h1, h2⟩ := setB_iff h
  unfold whirligigref03_Texts.f
  refine Evt.bind (refSet_ev l (by omega)) (Evt.ite_pos h ?_)
  exact refCommTL_ev l.length l 0 h1 h2 (by omega) (by omega)
end Go.Proofs.Ytnnlbofmlfafhaa.P
