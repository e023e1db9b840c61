/- The walk of lives; Scan once more with its results as values. -/
import Derived.Test.YtpolmnemknehaaaLexH
set_option linter.unusedVariables false
set_option linter.unusedSimpArgs false
namespace Go.Proofs.Ytpolmnemknehaaa
open Go.RowKit

theorem scan_lives : scan ((ByteArray.mk #[97, 115, 32, 53, 59]).size + 1) true (1, 1) (ByteArray.mk #[97, 115, 32, 53, 59]).data.toList = .ok [⟨0, [97, 115], 1, 1⟩, ⟨0, [53], 1, 4⟩, ⟨2, [59], 1, 5⟩] := by rfl

/-- an own row's cells -/
theorem own_cells {w : World} {base : Nat} {e : TypeId} {size : Nat} {v : Value} {n : Nat} {xs : List Value} (h : w.ownsRow base e size v n xs) (hn : 0 < n) :
    ∃ g cap, v = .slice (some ⟨g, 0, none⟩) n cap ∧ base ≤ g ∧ n ≤ cap ∧ g < w.heap.size ∧ ∀ j u, xs[j]? = some u → w.cell? ⟨g, j, none⟩ = some u := by
  have hc := h
  rcases h.2 with ⟨_, h0⟩ | ⟨g, cap, cur, rfl, hb, hg, h1, h2, h3, h4⟩
  · omega
  · refine ⟨g, cap, rfl, hb, h1, (Array.getElem?_eq_some_iff.1 hg).1, fun j u hu => ?_⟩
    have := hc.cells (g := g) rfl j u hu
    rwa [show (⟨g, 0, none⟩ : Addr).add j = ⟨g, j, none⟩ from by unfold Addr.add; split <;> simp_all] at this

/-- an own row's value, empty or not -/
theorem own_shape {w : World} {base : Nat} {e : TypeId} {size : Nat} {v : Value} {n : Nat} {xs : List Value} (h : w.ownsRow base e size v n xs) :
    ∃ A cap, v = .slice A n cap ∧ n ≤ cap ∧ (0 < n → ∃ g, A = some ⟨g, 0, none⟩ ∧ base ≤ g ∧ g < w.heap.size ∧ ∀ j u, xs[j]? = some u → w.cell? ⟨g, j, none⟩ = some u) := by
  rcases h.2 with ⟨rfl, rfl⟩ | ⟨g, cap, cur, rfl, hb, hg, h1, h2, h3, h4⟩
  · exact ⟨none, 0, rfl, Nat.le_refl _, fun h => by omega⟩
  · refine ⟨_, cap, rfl, h1, fun hn => ?_⟩
    obtain ⟨g', cap', e, h5, _, h6, h7⟩ := own_cells h hn
    cases e
    exact ⟨g, rfl, h5, h6, h7⟩

set_option maxHeartbeats 2000000 in
set_option maxRecDepth 100000 in
theorem lives_any (w : World) : Calls Try.prog 7 #[] w fun e w' => e = .returned (.bool true) ∧ Below w.heap.size w w' := by
  go_enter Try.func7, Try.ntmps7
  go_wp2_with fail
  refine (scan_any _ _ (by decide)).mono ?_
  rintro e w' ⟨hB, hR⟩
  rw [if_neg (by decide)] at hR
  rw [scan_lives] at hR
  obtain ⟨v, rfl, hown⟩ := hR
  obtain ⟨g, cap, rfl, hg, hcap, hgl, hc⟩ := own_cells (n := 3) hown (by decide)
  have HB := mkHid hB
  have c0 := hc 0 _ rfl
  have c1 := hc 1 _ rfl
  have c2 := hc 2 _ rfl
  have c3 := hc 3 _ rfl
  have c4 := hc 4 _ rfl
  have c5 := hc 5 _ rfl
  have c6 := hc 6 _ rfl
  have c7 := hc 7 _ rfl
  have c8 := hc 8 _ rfl
  clear hc hB hown
  go_wp2_with fail
  go_ret
  exact ⟨rfl, HB.out.alloc (by have := HB.out.size; omega) _⟩

theorem scan_err : ∀ (k : Nat) (free : Bool) (p : Int × Int) (l : List UInt8) (e : Int), scan k free p l = .error e → e ≠ 0
  | 0, _, _, _, e, h => by simp only [scan, Except.error.injEq] at h; omega
  | k + 1, _, _, [], e, h => by simp [scan] at h
  | k + 1, free, p, c :: cs, e, h => by
    simp only [scan] at h
    cases hs : step free (c :: cs) with
    | bad e' => rw [hs] at h; simp only [Except.error.injEq] at h; rw [← h]; exact step_bad hs
    | skip n => rw [hs] at h; exact scan_err k _ _ _ e h
    | tok kd off len n fr =>
      rw [hs] at h
      simp only at h
      cases h2 : scan k fr (advs p ((c :: cs).take n)) ((c :: cs).drop n) with
      | error e' => rw [h2] at h; simp only [Except.map, Except.error.injEq] at h; rw [← h]; exact scan_err k _ _ _ e' h2
      | ok ts => rw [h2] at h; simp [Except.map] at h

/-- Scan, with its results as values -/
theorem scan_gen (s : ByteArray) (w : World) (hs : s.size ≤ 8192) : Calls Try.prog 8 #[.string s] w fun e w' => Below w.heap.size w w' ∧ ∃ v p1 p2 E, e = .returned (.tuple #[v, .agg #[.int .i64 p1, .int .i64 p2], .int .i64 E]) ∧
    Hid ((E = 0 ∧ ∃ ts, scan (s.size + 1) true (1, 1) s.data.toList = .ok ts ∧ w'.ownsRow w.heap.size 31 4 v ts.length (toksCells ts)) ∨ (E ≠ 0 ∧ v = .slice none 0 0 ∧ scan (s.size + 1) true (1, 1) s.data.toList = .error E)) := by
  refine (scan_any s w (by omega)).mono fun e w' ⟨hB, hR⟩ => ⟨hB, ?_⟩
  rw [if_neg (by omega)] at hR
  cases hsc : scan (s.size + 1) true (1, 1) s.data.toList with
  | error E => rw [hsc] at hR; obtain ⟨l, c, he⟩ := hR; exact ⟨_, _, _, _, he, .inr ⟨scan_err _ _ _ _ _ hsc, rfl, rfl⟩⟩
  | ok ts => rw [hsc] at hR; obtain ⟨v, he, ho⟩ := hR; exact ⟨_, _, _, _, he, .inl ⟨rfl, ts, rfl, ho⟩⟩

theorem toks_get (ts : List Tok) (i : Nat) (t : Tok) (h : ts[i]? = some t) :
    (toksCells ts)[i * 4]? = some (.int .i64 t.k) ∧ (toksCells ts)[i * 4 + 1]? = some (.string ⟨t.t.toArray⟩) ∧ (toksCells ts)[i * 4 + 2]? = some (.int .i64 t.l) ∧ (toksCells ts)[i * 4 + 3]? = some (.int .i64 t.c) := by
  induction ts generalizing i with
  | nil => simp at h
  | cons x ts ih =>
    have e : toksCells (x :: ts) = .int .i64 x.k :: .string ⟨x.t.toArray⟩ :: .int .i64 x.l :: .int .i64 x.c :: toksCells ts := rfl
    cases i with
    | zero => simp at h; subst h; rw [e]; simp
    | succ i =>
      simp at h
      have := ih i h
      rw [e, show (i + 1) * 4 = i * 4 + 4 from by omega]
      simpa using this
end Go.Proofs.Ytpolmnemknehaaa
