/- A trie's values and the plain list: which list stands for which values; At, Put, Drop of the plain list. -/
import Derived.Test.YtnihacajjpcjeaaTrAd
import Derived.Test.YtnihacajjpcjeaaTrP
import Derived.Test.YtnihacajjpcjeaaPMay
import Derived.Test.YtnihacajjpcjeaaPx0
import Derived.Test.YtnihacajjpcjeaaPx6
import Derived.Test.YtnihacajjpcjeaaPx7
namespace Go.Proofs.Ytnihacajjpcjeaa
open Go.RowKit Go.Proofs.Ytnihacajjpcjeaa.P Go.Proofs.YtnihacajjpcjeaaW.PrintWords Go.Proofs.YtnihacajjpcjeaaW.PrintLast Go.Proofs.YtnihacajjpcjeaaW.PrintMore
set_option linter.unusedVariables false
set_option linter.unusedSimpArgs false

def okP (x : S34) : Prop := isA x.f0 ∧ mayB x.f0 x.f1 = true
def wayP (x : S34) : Way := wayA x.f0 x.f1.toNat
def befP (x y : S34) : Prop := x.f0 < y.f0 ∨ (x.f0 = y.f0 ∧ x.f1 < y.f1)
def bef (x y : S43) : Prop := befP x.f0 y.f0
/-- the list l stands for the values m -/
structure Rel (m : Way → Option Int) (l : List S43) : Prop where
  srt : l.Pairwise bef
  ok : ∀ x ∈ l, okP x.f0 ∧ m (wayP x.f0) = some x.f1
  all : ∀ π v, m π = some v → ∃ x ∈ l, wayP x.f0 = π
theorem befP_trans {x y z : S34} (h : befP x y) (k : befP y z) : befP x z := by unfold befP at *; omega
theorem befP_irr {x : S34} (h : befP x x) : False := by unfold befP at h; omega
theorem befP_ne {x y : S34} (h : befP x y) : x ≠ y := fun e => by rw [e] at h; exact befP_irr h
theorem S34_ext {x y : S34} (h0 : x.f0 = y.f0) (h1 : x.f1 = y.f1) : x = y := by cases x; cases y; simp_all
theorem befP_tri (x y : S34) : x = y ∨ befP x y ∨ befP y x := by
  by_cases h : x.f0 = y.f0
  · by_cases k : x.f1 = y.f1
    · exact .inl (S34_ext h k)
    · unfold befP; omega
  · unfold befP; omega
theorem adrA_way {a b : Int} : ∀ n : Nat, n ≤ 32 → 0 ≤ a → a < 4294967296 → 0 ≤ b → b < 4294967296 → wayA a n = wayA b n → adrA a n = adrA b n := by
  intro n
  induction n with
  | zero => intro _ a0 a1 b0 b1 _; rw [adrA_zero a a0 a1, adrA_zero b b0 b1]
  | succ n ih =>
    intro hn a0 a1 b0 b1 h
    have h2 := List.append_inj' (show wayA a n ++ [bitB a n] = wayA b n ++ [bitB b n] from h) rfl
    have h3 : bitB a n = bitB b n := by simpa using h2.2
    rw [adrA_step a n (by omega), adrA_step b n (by omega), h3, ih (by omega) a0 a1 b0 b1 h2.1]
theorem okP_bits {x : S34} (h : okP x) : 0 ≤ x.f1 ∧ x.f1 ≤ 32 := by
  have := (mayB_iff _ _).1 h.2; exact ⟨this.1, this.2.1⟩
theorem okP_adr {x : S34} (h : okP x) : adrA x.f0 x.f1.toNat = x.f0 := by
  obtain ⟨b0, b1, b2⟩ := (mayB_iff _ _).1 h.2
  unfold adrA
  unfold un at b2
  rw [show 32 - x.f1.toNat = (32 - x.f1).toNat by omega, b2]; omega
theorem wayP_inj {x y : S34} (hx : okP x) (hy : okP y) (h : wayP x = wayP y) : x = y := by
  have hl := congrArg List.length h
  unfold wayP at hl
  rw [wayA_len, wayA_len] at hl
  have bx := okP_bits hx
  have bY := okP_bits hy
  have e1 : x.f1 = y.f1 := by omega
  refine S34_ext ?_ e1
  unfold wayP at h
  rw [← okP_adr hx, ← okP_adr hy, ← hl]
  rw [← hl] at h
  exact adrA_way _ (by omega) hx.1.1 (by have := hx.1.2; omega) hy.1.1 (by have := hy.1.2; omega) h
instance : DecidableEq S34 := fun x y => if h : x.f0 = y.f0 ∧ x.f1 = y.f1 then isTrue (S34_ext h.1 h.2) else isFalse (fun e => h (by rw [e]; exact ⟨rfl, rfl⟩))
instance (x y : S34) : Decidable (befP x y) := by unfold befP; infer_instance
/-- what At tells -/
def atL (p : S34) : List S43 → Nat × Bool
  | [] => (0, false)
  | x :: r => if x.f0 = p then (0, true) else if befP p x.f0 then (0, false) else ((atL p r).1 + 1, (atL p r).2)
theorem atL_spec (p : S34) : ∀ l : List S43, l.Pairwise bef → ∃ u t : List S43, (atL p l).1 = u.length ∧ (∀ y ∈ u, befP y.f0 p) ∧ (∀ y ∈ t, befP p y.f0) ∧
    (((atL p l).2 = true ∧ ∃ x, x.f0 = p ∧ l = u ++ x :: t) ∨ ((atL p l).2 = false ∧ l = u ++ t)) := by
  intro l
  induction l with
  | nil => intro _; exact ⟨[], [], rfl, by simp, by simp, .inr ⟨rfl, rfl⟩⟩
  | cons x r ih =>
    intro hs
    obtain ⟨hx, hr⟩ := List.pairwise_cons.1 hs
    by_cases e : x.f0 = p
    · refine ⟨[], r, by simp [atL, e], by simp, fun y hy => ?_, .inl ⟨by simp [atL, e], x, e, rfl⟩⟩
      have := hx y hy; unfold bef at this; rw [e] at this; exact this
    · by_cases b : befP p x.f0
      · refine ⟨[], x :: r, by simp [atL, e, b], by simp, fun y hy => ?_, .inr ⟨by simp [atL, e, b], rfl⟩⟩
        rcases List.mem_cons.1 hy with rfl | hy
        · exact b
        · exact befP_trans b (hx y hy)
      · obtain ⟨u, t, h1, h2, h3, h4⟩ := ih hr
        have hxp : befP x.f0 p := by rcases befP_tri x.f0 p with h | h | h; exact absurd h e; exact h; exact absurd h b
        have e1 : (atL p (x :: r)).1 = (atL p r).1 + 1 := by simp [atL, e, b]
        have e2 : (atL p (x :: r)).2 = (atL p r).2 := by simp [atL, e, b]
        refine ⟨x :: u, t, by rw [e1, h1]; rfl, fun y hy => ?_, h3, ?_⟩
        · rcases List.mem_cons.1 hy with rfl | hy
          · exact hxp
          · exact h2 y hy
        · rw [e2]
          rcases h4 with ⟨k1, x', k2, k3⟩ | ⟨k1, k2⟩
          · exact .inl ⟨k1, x', k2, by rw [k3]; rfl⟩
          · exact .inr ⟨k1, by rw [k2]; rfl⟩
theorem before_is (a b c d : Int) : whirligigref01_Before.f a b c d = some (decide (befP ⟨a, b⟩ ⟨c, d⟩)) := by
  unfold whirligigref01_Before.f befP
  split
  · rename_i h; subst h; simp
  · rename_i h; simp [h]
theorem at_loop (l : List S43) (a b : Int) (hl : l.length ≤ 1000000) : ∀ (r : List S43) (i : Nat), l.drop i = r → i ≤ l.length → Evt (fun k => whirligigref06_At.l0 k l i a b) (((i + (atL ⟨a, b⟩ r).1 : Nat) : Int), (atL ⟨a, b⟩ r).2) := by
  intro r
  induction r with
  | nil =>
    intro i h hi
    have : l.length ≤ i := List.drop_eq_nil_iff.1 h
    refine Evt.step ?_
    simp only [whirligigref06_At.l0]
    refine Evt.ite_neg (by omega) ?_
    simp only [atL]
    have e : ((l.length : Nat) : Int) = ((i + 0 : Nat) : Int) := by omega
    rw [e]; exact Evt.pure _
  | cons x r ih =>
    intro i h hi
    have hlt : i < l.length := by
      rcases Nat.lt_or_ge i l.length with h1 | h1
      · exact h1
      · rw [List.drop_eq_nil_of_le h1] at h; cases h
    have hx : l[i]? = some x := by
      have := List.drop_eq_getElem_cons hlt
      rw [this] at h; injection h with h1 _; rw [List.getElem?_eq_getElem hlt, h1]
    have hr : l.drop (i + 1) = r := by
      have := List.drop_eq_getElem_cons hlt
      rw [this] at h; injection h
    have hrd : rd_T43 l (i : Int) = x := by unfold rd_T43; rw [Int.toNat_natCast, List.getD_eq_getElem?_getD, hx]; rfl
    refine Evt.step ?_
    simp only [whirligigref06_At.l0]
    refine Evt.ite_pos (by omega) (Evt.ite_pos (by omega) ?_)
    rw [hrd]
    by_cases e : x.f0 = ⟨a, b⟩
    · have e0 : x.f0.f0 = a := by rw [e]
      have e1 : x.f0.f1 = b := by rw [e]
      refine Evt.ite_pos (by simp [e0, e1]) ?_
      simp only [atL, if_pos e]
      exact Evt.pure _
    · refine Evt.ite_neg (fun hh => e (by
        simp only [Bool.and_eq_true, beq_iff_eq] at hh
        exact S34_ext hh.1 hh.2)) ?_
      refine Evt.bindc (before_is _ _ _ _) ?_
      by_cases c : befP ⟨a, b⟩ x.f0
      · refine Evt.ite_pos (by simpa using c) ?_
        simp only [atL, if_neg e, if_pos c]
        exact Evt.pure _
      · refine Evt.ite_neg (by simpa using c) ?_
        have hw : wrap64 ((i : Int) + 1) = ((i + 1 : Nat) : Int) := by rw [wrap64_in _ (by omega) (by omega)]; omega
        rw [hw]
        have := ih (i + 1) hr (by omega)
        simp only [atL, if_neg e, if_neg c]
        rw [show i + ((atL ⟨a, b⟩ r).1 + 1) = i + 1 + (atL ⟨a, b⟩ r).1 by omega]
        exact this
theorem at_ev (l : List S43) (a b : Int) (hl : l.length ≤ 1000000) : Evt (fun k => whirligigref06_At.f k l a b) (((atL ⟨a, b⟩ l).1 : Int), (atL ⟨a, b⟩ l).2) := by
  have := at_loop l a b hl l 0 rfl (by omega)
  rw [Nat.zero_add] at this
  exact this
theorem rel_nil : Rel (fun _ => none) [] := ⟨List.Pairwise.nil, fun _ h => (by simp at h), fun _ _ h => (by cases h)⟩
theorem put_ev (l : List S43) (a b v : Int) (hl : l.length ≤ 1000) {u t : List S43} (h1 : (atL ⟨a, b⟩ l).1 = u.length)
    (h4 : ((atL ⟨a, b⟩ l).2 = true ∧ ∃ x : S43, x.f0 = ⟨a, b⟩ ∧ l = u ++ x :: t) ∨ ((atL ⟨a, b⟩ l).2 = false ∧ l = u ++ t)) :
    Evt (fun k => whirligigref06_Put.f k l a b v) (u ++ [⟨⟨a, b⟩, v⟩] ++ t, (atL ⟨a, b⟩ l).2) := by
  unfold whirligigref06_Put.f
  refine Evt.bind (at_ev l a b (by omega)) ?_
  have hul : u.length ≤ l.length := by
    rcases h4 with ⟨_, x, _, h⟩ | ⟨_, h⟩ <;> rw [h] <;> simp
  have htk : l.take u.length = u := by
    rcases h4 with ⟨_, x, _, h⟩ | ⟨_, h⟩ <;> rw [h, List.take_left]
  refine Evt.ite_pos (by omega) (Evt.ite_pos (by rw [h1]; omega) ?_)
  refine Evt.bindc rfl ?_
  rw [h1, Int.toNat_natCast, htk]
  refine Evt.ite_pos (by simp; omega) (Evt.bindc rfl (Evt.ite_pos (by simp; omega) (Evt.bindc rfl ?_)))
  rcases h4 with ⟨hb, x, hx, h⟩ | ⟨hb, h⟩
  · rw [hb]
    have hw : wrap64 ((u.length : Int) + 1) = ((u.length + 1 : Nat) : Int) := by rw [wrap64_in _ (by omega) (by omega)]; omega
    have hd : l.drop (u.length + 1) = t := by
      rw [h, ← List.drop_drop]; simp
    have hlt : u.length + 1 ≤ l.length := by rw [h]; simp
    have hlt2 : t.length ≤ l.length := by rw [h]; simp; omega
    refine Evt.ite_pos rfl (Evt.ite_pos (by rw [hw]; omega) (Evt.ite_pos (by rw [hw]; omega) (Evt.bindc rfl ?_)))
    rw [hw, Int.toNat_natCast, hd]
    refine Evt.ite_pos (by simp; omega) ?_
    rw [List.nil_append]
    exact Evt.pure _
  · rw [hb]
    have hd : l.drop u.length = t := by rw [h]; simp
    have hlt2 : t.length ≤ l.length := by rw [h]; simp
    refine Evt.ite_neg (by simp) (Evt.bindc rfl ?_)
    rw [hd]
    refine Evt.ite_pos (by simp; omega) ?_
    rw [List.nil_append]
    exact Evt.pure _
theorem drop_ev (l : List S43) (a b : Int) (hl : l.length ≤ 1000) {u t : List S43} (h1 : (atL ⟨a, b⟩ l).1 = u.length)
    (h4 : ((atL ⟨a, b⟩ l).2 = true ∧ ∃ x : S43, x.f0 = ⟨a, b⟩ ∧ l = u ++ x :: t) ∨ ((atL ⟨a, b⟩ l).2 = false ∧ l = u ++ t)) :
    Evt (fun k => whirligigref06_Drop.f k l a b) (u ++ t, (atL ⟨a, b⟩ l).2) := by
  unfold whirligigref06_Drop.f
  refine Evt.bind (at_ev l a b (by omega)) ?_
  rcases h4 with ⟨hb, x, hx, h⟩ | ⟨hb, h⟩
  · have hul : u.length ≤ l.length := by rw [h]; simp
    have htk : l.take u.length = u := by rw [h, List.take_left]
    rw [hb]
    have hw : wrap64 ((u.length : Int) + 1) = ((u.length + 1 : Nat) : Int) := by rw [wrap64_in _ (by omega) (by omega)]; omega
    have hd : l.drop (u.length + 1) = t := by
      rw [h, ← List.drop_drop]; simp
    have hlt : u.length + 1 ≤ l.length := by rw [h]; simp
    have hlt2 : t.length ≤ l.length := by rw [h]; simp; omega
    refine Evt.ite_pos rfl (Evt.ite_pos (by omega) (Evt.ite_pos (by rw [h1]; omega) (Evt.bindc rfl ?_)))
    rw [h1, Int.toNat_natCast, htk]
    refine Evt.ite_pos (by simp; omega) (Evt.bindc rfl ?_)
    refine Evt.ite_pos (by rw [hw]; omega) (Evt.ite_pos (by rw [hw]; omega) (Evt.bindc rfl ?_))
    rw [hw, Int.toNat_natCast, hd]
    refine Evt.ite_pos (by simp; omega) ?_
    rw [List.nil_append]
    exact Evt.pure _
  · rw [hb, h]
    exact Evt.ite_neg (by simp) (Evt.pure _)
section
variable {m : Way → Option Int} {l u t : List S43} {p : S34}
theorem at_mem (hR : Rel m l) (hp : okP p) (h2 : ∀ y ∈ u, befP y.f0 p) (h3 : ∀ y ∈ t, befP p y.f0)
    (h4 : ((atL p l).2 = true ∧ ∃ x : S43, x.f0 = p ∧ l = u ++ x :: t) ∨ ((atL p l).2 = false ∧ l = u ++ t)) : (m (wayP p)).isSome = (atL p l).2 := by
  rcases h4 with ⟨hb, x, hx, h⟩ | ⟨hb, h⟩
  · rw [hb]
    have := (hR.ok x (by rw [h]; simp)).2
    rw [hx] at this
    rw [this]; rfl
  · rw [hb]
    cases hm : m (wayP p) with
    | none => rfl
    | some v =>
      obtain ⟨y, hy, hw⟩ := hR.all _ _ hm
      have e := wayP_inj (hR.ok y hy).1 hp hw
      rw [h] at hy
      rcases List.mem_append.1 hy with hy | hy
      · exact absurd e (befP_ne (h2 y hy))
      · exact absurd e.symm (befP_ne (h3 y hy))
theorem rest_rel (hR : Rel m l) (hp : okP p) (h2 : ∀ y ∈ u, befP y.f0 p) (h3 : ∀ y ∈ t, befP p y.f0)
    (h4 : ((atL p l).2 = true ∧ ∃ x : S43, x.f0 = p ∧ l = u ++ x :: t) ∨ ((atL p l).2 = false ∧ l = u ++ t)) :
    (u ++ t).Pairwise bef ∧ (∀ x ∈ u ++ t, okP x.f0 ∧ x.f0 ≠ p ∧ m (wayP x.f0) = some x.f1) ∧ ∀ π v, π ≠ wayP p → m π = some v → ∃ x ∈ u ++ t, wayP x.f0 = π := by
  have hsub : (u ++ t).Sublist l := by
    rcases h4 with ⟨_, x, _, h⟩ | ⟨_, h⟩ <;> rw [h]
    · exact List.Sublist.append (List.Sublist.refl _) (List.sublist_cons_self _ _)
    · exact List.Sublist.refl _
  refine ⟨hR.srt.sublist hsub, fun x hx => ⟨(hR.ok x (hsub.subset hx)).1, ?_, (hR.ok x (hsub.subset hx)).2⟩, fun π v hne hm => ?_⟩
  · rcases List.mem_append.1 hx with hx | hx
    · exact befP_ne (h2 x hx)
    · exact (befP_ne (h3 x hx)).symm
  · obtain ⟨x, hx, hw⟩ := hR.all π v hm
    refine ⟨x, ?_, hw⟩
    rcases h4 with ⟨_, y, hy, h⟩ | ⟨_, h⟩ <;> rw [h] at hx
    · rcases List.mem_append.1 hx with hx | hx
      · exact List.mem_append_left _ hx
      · rcases List.mem_cons.1 hx with rfl | hx
        · rw [hy] at hw; exact absurd hw.symm hne
        · exact List.mem_append_right _ hx
    · exact hx
theorem rel_put (hR : Rel m l) (hp : okP p) (v : Int) (h2 : ∀ y ∈ u, befP y.f0 p) (h3 : ∀ y ∈ t, befP p y.f0)
    (h4 : ((atL p l).2 = true ∧ ∃ x : S43, x.f0 = p ∧ l = u ++ x :: t) ∨ ((atL p l).2 = false ∧ l = u ++ t)) : Rel (putM m (wayP p) (some v)) (u ++ [⟨p, v⟩] ++ t) := by
  obtain ⟨k1, k2, k3⟩ := rest_rel hR hp h2 h3 h4
  obtain ⟨s1, s2, s3⟩ := List.pairwise_append.1 k1
  refine ⟨?_, fun x hx => ?_, fun π w hm => ?_⟩
  · rw [List.append_assoc]
    refine List.pairwise_append.2 ⟨s1, ?_, fun x hx y hy => ?_⟩
    · exact List.pairwise_cons.2 ⟨fun y hy => h3 y hy, s2⟩
    · rcases List.mem_cons.1 hy with rfl | hy
      · exact h2 x hx
      · exact s3 x hx y hy
  · rw [List.append_assoc] at hx
    have hcase : x = ⟨p, v⟩ ∨ x ∈ u ++ t := by
      rcases List.mem_append.1 hx with hx | hx
      · exact .inr (List.mem_append_left _ hx)
      · rcases List.mem_cons.1 hx with rfl | hx
        · exact .inl rfl
        · exact .inr (List.mem_append_right _ hx)
    rcases hcase with rfl | hx
    · exact ⟨hp, putM_self _ _ _⟩
    · obtain ⟨g1, g2, g3⟩ := k2 x hx
      exact ⟨g1, by rw [putM_ne (fun e => g2 (wayP_inj g1 hp e))]; exact g3⟩
  · by_cases e : π = wayP p
    · exact ⟨⟨p, v⟩, by simp, e.symm⟩
    · rw [putM_ne e] at hm
      obtain ⟨x, hx, hw⟩ := k3 π w e hm
      refine ⟨x, ?_, hw⟩
      rcases List.mem_append.1 hx with hx | hx
      · simp [hx]
      · simp [hx]
theorem rel_drop (hR : Rel m l) (hp : okP p) (h2 : ∀ y ∈ u, befP y.f0 p) (h3 : ∀ y ∈ t, befP p y.f0)
    (h4 : ((atL p l).2 = true ∧ ∃ x : S43, x.f0 = p ∧ l = u ++ x :: t) ∨ ((atL p l).2 = false ∧ l = u ++ t)) : Rel (putM m (wayP p) none) (u ++ t) := by
  obtain ⟨k1, k2, k3⟩ := rest_rel hR hp h2 h3 h4
  refine ⟨k1, fun x hx => ?_, fun π w hm => ?_⟩
  · obtain ⟨g1, g2, g3⟩ := k2 x hx
    exact ⟨g1, by rw [putM_ne (fun e => g2 (wayP_inj g1 hp e))]; exact g3⟩
  · by_cases e : π = wayP p
    · rw [e, putM_self] at hm; cases hm
    · rw [putM_ne e] at hm
      exact k3 π w e hm
end
end Go.Proofs.Ytnihacajjpcjeaa
