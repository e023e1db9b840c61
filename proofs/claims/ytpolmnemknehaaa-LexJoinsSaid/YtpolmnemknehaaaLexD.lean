/- The walk of text, case by case: where the text ends too early, has a wrong byte, is too long, or is taken. -/
import Derived.Test.YtpolmnemknehaaaLexC
import Derived.Deep.RegionWith
set_option linter.unusedVariables false
set_option linter.unusedSimpArgs false
namespace Go.Proofs.Ytpolmnemknehaaa
open Go.RowKit

theorem mkHid {p : Prop} (h : p) : Hid p := h
/-- the scanner at work: its block, the tokens that it has -/
def At (B : Nat) (w : World) (g : Nat) (s : ByteArray) (a l c : Int) (m : Nat) (xs : List Value) (f : Bool) : Prop :=
  ∃ v, Sc w g s a l c v f ∧ w.ownsRow B 31 4 v m xs ∧ v.ownBlock ≠ some g ∧ B ≤ g
/-- the scanner gives up -/
def Gone (B : Nat) (w0 w : World) (g : Nat) : Prop := ∃ s a l c v f, Sc w g s a l c v f ∧ Below B w0 w

theorem At.drewN {B g m : Nat} {w : World} {s : ByteArray} {a l c : Int} {xs : List Value} {f : Bool} (h : At B w g s a l c m xs f) (k : Nat) : At B (w.drewN k) g s a l c m xs f := h


/-- where the text that begins at a ends -/
def textLen (s : ByteArray) (a : Int) : Int := 1 + runLen plainB s (a + 1).toNat
theorem textLen_bd (s : ByteArray) (a : Int) (ha : 0 ≤ a) (ha2 : a + 1 ≤ s.size) : 1 ≤ textLen s a ∧ a + textLen s a ≤ s.size := by
  have := runLen_le plainB s (a + 1).toNat (by omega)
  unfold textLen; omega

set_option maxHeartbeats 2000000 in
set_option maxRecDepth 100000 in
theorem text_end (B g : Nat) (s : ByteArray) (a l c : Int) (m : Nat) (xs : List Value) (f : Bool) (w : World) (hs : s.size ≤ 140737488351232)
    (h : At B w g s a l c m xs f) (ha : 0 ≤ a) (ha2 : a + 1 ≤ s.size) (ht : a + textLen s a = s.size) :
    Calls Try.prog 26 #[.pointer (some ⟨g, 0, none⟩)] w fun e w' => e = .returned (.int .i64 3) ∧ Gone B w w' g := by
  obtain ⟨v, hS, hown, hvg, hBg⟩ := h
  have hb := textLen_bd s a ha ha2
  obtain ⟨n, hn⟩ : ∃ n : Int, n = textLen s a := ⟨_, rfl⟩
  rw [← hn] at hb ht
  obtain ⟨h1, h2⟩ := hb
  have hq : ((a + n : Int) == (s.size : Int)) = true := by simp [ht]
  have HS := mkHid hS
  have HN := mkHid hn
  clear hn hown hvg ht
  obtain ⟨c0, c1, c2, c3, c4, c5, cf⟩ := hS.cells
  clear hS cf c2 c3 c4 c5
  go_enter Try.func26, Try.ntmps26
  go_wp2_with fail
  refine (run_any 35 plainB asks_plain g s a 1 l c v f _ hs HS.out ha (by omega) (by omega)).mono ?_
  rintro e w' ⟨rfl, mm, rfl⟩
  rw [show 1 + (runLen plainB s (a + 1).toNat : Int) = n from HN.out.symm]
  go_wp2_with fail
  go_ret
  exact ⟨rfl, s, a, l, c, v, f, HS.out, ⟨rfl, rfl, rfl, Nat.le_refl _, fun _ _ => rfl⟩⟩

set_option maxHeartbeats 2000000 in
set_option maxRecDepth 100000 in
theorem text_nl (B g : Nat) (s : ByteArray) (a l c : Int) (m : Nat) (xs : List Value) (f : Bool) (w : World) (hs : s.size ≤ 140737488351232)
    (h : At B w g s a l c m xs f) (ha : 0 ≤ a) (ha2 : a + 1 ≤ s.size) (ht : a + textLen s a < s.size) (hb10 : bt s (a + textLen s a) = 10) :
    Calls Try.prog 26 #[.pointer (some ⟨g, 0, none⟩)] w fun e w' => e = .returned (.int .i64 3) ∧ Gone B w w' g := by
  obtain ⟨v, hS, hown, hvg, hBg⟩ := h
  have hb := textLen_bd s a ha ha2
  obtain ⟨n, hn⟩ : ∃ n : Int, n = textLen s a := ⟨_, rfl⟩
  rw [← hn] at hb ht hb10
  obtain ⟨h1, h2⟩ := hb
  have hq : ((a + n : Int) == (s.size : Int)) = false := by simp; omega
  have hq2 : (bt s (a + n) == 10) = true := by simp [hb10]
  have hx := bt_at s (a + n)
  have i0 : 0 ≤ a + n := by omega
  have HS := mkHid hS
  have HN := mkHid hn
  clear hn hown hvg hb10
  obtain ⟨c0, c1, c2, c3, c4, c5, cf⟩ := hS.cells
  clear hS cf c2 c3 c4 c5
  go_enter Try.func26, Try.ntmps26
  go_wp2_with fail
  refine (run_any 35 plainB asks_plain g s a 1 l c v f _ hs HS.out ha (by omega) (by omega)).mono ?_
  rintro e w' ⟨rfl, mm, rfl⟩
  rw [show 1 + (runLen plainB s (a + 1).toNat : Int) = n from HN.out.symm]
  go_wp2_with fail
  go_ret
  exact ⟨rfl, s, a, l, c, v, f, HS.out, ⟨rfl, rfl, rfl, Nat.le_refl _, fun _ _ => rfl⟩⟩

set_option maxHeartbeats 2000000 in
set_option maxRecDepth 100000 in
theorem text_form (B g : Nat) (s : ByteArray) (a l c : Int) (m : Nat) (xs : List Value) (f : Bool) (w : World) (hs : s.size ≤ 140737488351232)
    (h : At B w g s a l c m xs f) (ha : 0 ≤ a) (ha2 : a + 1 ≤ s.size) (ht : a + textLen s a < s.size) (hb10 : bt s (a + textLen s a) ≠ 10) (h34 : bt s (a + textLen s a) ≠ 34)
    (hm : m ≤ 1000000) (hl0 : 0 ≤ l) (hc0 : 0 ≤ c) (hl : l ≤ 140737488351232) (hc : c ≤ 140737488351232) :
    Calls Try.prog 26 #[.pointer (some ⟨g, 0, none⟩)] w fun e w' => e = .returned (.int .i64 4) ∧ Gone B w w' g := by
  obtain ⟨v, hS, hown, hvg, hBg⟩ := h
  have hb := textLen_bd s a ha ha2
  obtain ⟨n, hn⟩ : ∃ n : Int, n = textLen s a := ⟨_, rfl⟩
  rw [← hn] at hb ht hb10 h34
  obtain ⟨h1, h2⟩ := hb
  have hq : ((a + n : Int) == (s.size : Int)) = false := by simp; omega
  have hq2 : (bt s (a + n) == 10) = false := by simp [hb10]
  have hx := bt_at s (a + n)
  have i0 : 0 ≤ a + n := by omega
  have hq3 : (bt s (a + n) == 34) = false := by simp [h34]
  have hq4 : (bt s (a + n) != 34) = true := by simp [h34]
  clear h34
  have HS := mkHid hS
  have HN := mkHid hn
  have HOWN := mkHid hown
  have HVG := mkHid hvg
  clear hn hown hvg hb10
  obtain ⟨c0, c1, c2, c3, c4, c5, cf⟩ := hS.cells
  clear hS cf c2 c3 c4 c5
  go_enter Try.func26, Try.ntmps26
  go_wp2_with fail
  refine (run_any 35 plainB asks_plain g s a 1 l c v f _ hs HS.out ha (by omega) (by omega)).mono ?_
  rintro e w' ⟨rfl, mm, rfl⟩
  rw [show 1 + (runLen plainB s (a + 1).toNat : Int) = n from HN.out.symm]
  go_wp2_with fail
  refine (next_any g s a n l c v f _ hs (HS.out.drewN mm) ha (by omega) (by omega) hl0 hc0 hl hc).mono ?_
  rintro e w' ⟨rfl, hS2, hG2⟩
  have HS2 := mkHid hS2
  have HG2 := mkHid hG2
  clear hS2 hG2
  go_wp2_with fail
  go_ret
  exact ⟨rfl, _, _, _, _, _, _, HS2.out, Below.grown (⟨rfl, rfl, rfl, Nat.le_refl _, fun _ _ => rfl⟩ : Below B w (w.drewN mm)) HG2.out (by have := lt_of_block HS.out; simp; omega) (fun k hk => by cases hk; exact hBg)⟩

set_option maxHeartbeats 2000000 in
set_option maxRecDepth 100000 in
theorem text_long (B g : Nat) (s : ByteArray) (a l c : Int) (m : Nat) (xs : List Value) (f : Bool) (w : World) (hs : s.size ≤ 140737488351232)
    (h : At B w g s a l c m xs f) (ha : 0 ≤ a) (ha2 : a + 1 ≤ s.size) (ht : a + textLen s a < s.size) (hb10 : bt s (a + textLen s a) ≠ 10) (h34 : bt s (a + textLen s a) = 34) (hlong : 64 < textLen s a - 1)
    (hm : m ≤ 1000000) (hl0 : 0 ≤ l) (hc0 : 0 ≤ c) (hl : l ≤ 140737488351232) (hc : c ≤ 140737488351232) :
    Calls Try.prog 26 #[.pointer (some ⟨g, 0, none⟩)] w fun e w' => e = .returned (.int .i64 2) ∧ Gone B w w' g := by
  obtain ⟨v, hS, hown, hvg, hBg⟩ := h
  have hb := textLen_bd s a ha ha2
  obtain ⟨n, hn⟩ : ∃ n : Int, n = textLen s a := ⟨_, rfl⟩
  rw [← hn] at hb ht hb10 h34 hlong
  obtain ⟨h1, h2⟩ := hb
  have hq : ((a + n : Int) == (s.size : Int)) = false := by simp; omega
  have hq2 : (bt s (a + n) == 10) = false := by simp [hb10]
  have hx := bt_at s (a + n)
  have i0 : 0 ≤ a + n := by omega
  have hq3 : (bt s (a + n) == 34) = true := by simp [h34]
  have hq4 : (bt s (a + n) != 34) = false := by simp [h34]
  clear h34
  have HS := mkHid hS
  have HN := mkHid hn
  have HOWN := mkHid hown
  have HVG := mkHid hvg
  clear hn hown hvg hb10
  obtain ⟨c0, c1, c2, c3, c4, c5, cf⟩ := hS.cells
  clear hS cf c2 c3 c4 c5
  go_enter Try.func26, Try.ntmps26
  go_wp2_with fail
  refine (run_any 35 plainB asks_plain g s a 1 l c v f _ hs HS.out ha (by omega) (by omega)).mono ?_
  rintro e w' ⟨rfl, mm, rfl⟩
  rw [show 1 + (runLen plainB s (a + 1).toNat : Int) = n from HN.out.symm]
  go_wp2_with fail
  go_ret
  exact ⟨rfl, s, a, l, c, v, f, HS.out, ⟨rfl, rfl, rfl, Nat.le_refl _, fun _ _ => rfl⟩⟩

set_option maxHeartbeats 2000000 in
set_option maxRecDepth 100000 in
theorem text_ok (B g : Nat) (s : ByteArray) (a l c : Int) (m : Nat) (xs : List Value) (f : Bool) (w : World) (hs : s.size ≤ 140737488351232)
    (h : At B w g s a l c m xs f) (ha : 0 ≤ a) (ha2 : a + 1 ≤ s.size) (ht : a + textLen s a < s.size) (hb10 : bt s (a + textLen s a) ≠ 10) (h34 : bt s (a + textLen s a) = 34) (hlong : ¬ 64 < textLen s a - 1)
    (hm : m ≤ 1000000) (hl0 : 0 ≤ l) (hc0 : 0 ≤ c) (hl : l ≤ 140737488351232) (hc : c ≤ 140737488351232) :
    Calls Try.prog 26 #[.pointer (some ⟨g, 0, none⟩)] w fun e w' => e = .returned (.int .i64 0) ∧
      At B w' g s (a + (textLen s a + 1)) (advs (l, c) ((s.data.toList.drop a.toNat).take (textLen s a + 1).toNat)).1 (advs (l, c) ((s.data.toList.drop a.toNat).take (textLen s a + 1).toNat)).2 (m + 1) (xs ++ [.int .i64 1, .string (s.extract (a + 1).toNat (a + textLen s a).toNat), .int .i64 l, .int .i64 c]) false ∧ Below B w w' := by
  obtain ⟨v, hS, hown, hvg, hBg⟩ := h
  have hb := textLen_bd s a ha ha2
  obtain ⟨n, hn⟩ : ∃ n : Int, n = textLen s a := ⟨_, rfl⟩
  rw [← hn] at hb ht hb10 h34 hlong ⊢
  obtain ⟨h1, h2⟩ := hb
  have hq : ((a + n : Int) == (s.size : Int)) = false := by simp; omega
  have hq2 : (bt s (a + n) == 10) = false := by simp [hb10]
  have hx := bt_at s (a + n)
  have i0 : 0 ≤ a + n := by omega
  have hq3 : (bt s (a + n) == 34) = true := by simp [h34]
  have hq4 : (bt s (a + n) != 34) = false := by simp [h34]
  clear h34
  have HS := mkHid hS
  have HN := mkHid hn
  have HOWN := mkHid hown
  have HVG := mkHid hvg
  clear hn hown hvg hb10
  obtain ⟨c0, c1, c2, c3, c4, c5, cf⟩ := hS.cells
  clear hS cf c2 c3 c4 c5
  go_enter Try.func26, Try.ntmps26
  go_wp2_with fail
  refine (run_any 35 plainB asks_plain g s a 1 l c v f _ hs HS.out ha (by omega) (by omega)).mono ?_
  rintro e w' ⟨rfl, mm, rfl⟩
  rw [show 1 + (runLen plainB s (a + 1).toNat : Int) = n from HN.out.symm]
  go_wp2_with fail
  have hq5 : decide (64 < n - 1) = false := decide_eq_false (by omega)
  have e3 : IntKind.i64.wrap (a + 1) = a + 1 := IntWalk.i64_in _ (by omega)
  have e4 : IntKind.i64.wrap (n + 1) = n + 1 := IntWalk.i64_in _ (by omega)
  have e5 : 0 ≤ a + 1 := by omega
  have e6 : a + 1 ≤ a + n := by omega
  have e7 : a + n ≤ (s.size : Int) := by omega
  go_region_with (go_at_call 25; refine (put_any B g s a l c v f 1 _ (n + 1) m xs (w.drewN (mm + 1)) hs (HS.out.drewN _) HOWN.out HVG.out hBg hm ha (by omega) (by omega) hl0 hc0 hl hc).mono ?_; rintro e w' ⟨rfl, hR⟩)
  all_goals
    obtain ⟨v', hS', ho', hn', hB'⟩ := hR
    have HS' := mkHid hS'
    have HO' := mkHid ho'
    have HB' := mkHid hB'
    have HN' := mkHid hn'
    clear hS' ho' hB' hn'
    go_wp2_with fail
    go_ret
    exact ⟨rfl, ⟨v', HS'.out, HO'.out, HN'.out, hBg⟩, (⟨rfl, rfl, rfl, Nat.le_refl _, fun _ _ => rfl⟩ : Below B w (w.drewN (mm + 1))).trans HB'.out⟩

end Go.Proofs.Ytpolmnemknehaaa
