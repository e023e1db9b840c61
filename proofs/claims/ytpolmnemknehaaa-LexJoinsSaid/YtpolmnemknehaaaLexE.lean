/- The walk of word: too long, or taken. -/
import Derived.Test.YtpolmnemknehaaaLexD
set_option linter.unusedVariables false
set_option linter.unusedSimpArgs false
namespace Go.Proofs.Ytpolmnemknehaaa
open Go.RowKit

def wordLen (s : ByteArray) (a : Int) : Int := 0 + runLen letterB s (a + 0).toNat
theorem wordLen_bd (s : ByteArray) (a : Int) (ha : 0 ≤ a) (ha2 : a ≤ s.size) : 0 ≤ wordLen s a ∧ a + wordLen s a ≤ s.size := by
  have := runLen_le letterB s (a + 0).toNat (by omega)
  unfold wordLen; omega

set_option maxHeartbeats 2000000 in
set_option maxRecDepth 100000 in
theorem word_long (B g : Nat) (s : ByteArray) (a l c : Int) (m : Nat) (xs : List Value) (f : Bool) (w : World) (hs : s.size ≤ 140737488351232)
    (h : At B w g s a l c m xs f) (ha : 0 ≤ a) (ha2 : a ≤ s.size) (hlong : 32 < wordLen s a) :
    Calls Try.prog 28 #[.pointer (some ⟨g, 0, none⟩)] w fun e w' => e = .returned (.int .i64 2) ∧ Gone B w w' g := by
  obtain ⟨v, hS, hown, hvg, hBg⟩ := h
  have hb := wordLen_bd s a ha ha2
  obtain ⟨n, hn⟩ : ∃ n : Int, n = wordLen s a := ⟨_, rfl⟩
  rw [← hn] at hb hlong
  obtain ⟨h1, h2⟩ := hb
  have hq5 : decide (32 < n) = true := decide_eq_true hlong
  have HS := mkHid hS
  have HN := mkHid hn
  clear hn hown hvg
  obtain ⟨c0, c1, c2, c3, c4, c5, cf⟩ := hS.cells
  clear hS cf c2 c3 c4 c5
  go_enter Try.func28, Try.ntmps28
  go_wp2_with fail
  refine (run_any 27 letterB asks_letter g s a 0 l c v f _ hs HS.out ha (by omega) (by omega)).mono ?_
  rintro e w' ⟨rfl, mm, rfl⟩
  rw [show 0 + (runLen letterB s (a + 0).toNat : Int) = n from HN.out.symm]
  go_wp2_with fail
  go_ret
  exact ⟨rfl, s, a, l, c, v, f, HS.out, ⟨rfl, rfl, rfl, Nat.le_refl _, fun _ _ => rfl⟩⟩

set_option maxHeartbeats 2000000 in
set_option maxRecDepth 100000 in
theorem word_ok (B g : Nat) (s : ByteArray) (a l c : Int) (m : Nat) (xs : List Value) (f : Bool) (w : World) (hs : s.size ≤ 140737488351232)
    (h : At B w g s a l c m xs f) (ha : 0 ≤ a) (ha2 : a ≤ s.size) (hlong : ¬ 32 < wordLen s a) 
    (hm : m ≤ 1000000) (hl0 : 0 ≤ l) (hc0 : 0 ≤ c) (hl : l ≤ 140737488351232) (hc : c ≤ 140737488351232) :
    Calls Try.prog 28 #[.pointer (some ⟨g, 0, none⟩)] w fun e w' => e = .returned (.int .i64 0) ∧
      At B w' g s (a + wordLen s a) (advs (l, c) ((s.data.toList.drop a.toNat).take (wordLen s a).toNat)).1 (advs (l, c) ((s.data.toList.drop a.toNat).take (wordLen s a).toNat)).2 (m + 1) (xs ++ [.int .i64 0, .string (s.extract a.toNat (a + wordLen s a).toNat), .int .i64 l, .int .i64 c]) false ∧ Below B w w' := by
  obtain ⟨v, hS, hown, hvg, hBg⟩ := h
  have hb := wordLen_bd s a ha ha2
  obtain ⟨n, hn⟩ : ∃ n : Int, n = wordLen s a := ⟨_, rfl⟩
  rw [← hn] at hb hlong ⊢
  obtain ⟨h1, h2⟩ := hb
  have hq5 : decide (32 < n) = false := decide_eq_false hlong
  have HS := mkHid hS
  have HN := mkHid hn
  have HOWN := mkHid hown
  have HVG := mkHid hvg
  clear hn hown hvg
  obtain ⟨c0, c1, c2, c3, c4, c5, cf⟩ := hS.cells
  clear hS cf c2 c3 c4 c5
  go_enter Try.func28, Try.ntmps28
  go_wp2_with fail
  refine (run_any 27 letterB asks_letter g s a 0 l c v f _ hs HS.out ha (by omega) (by omega)).mono ?_
  rintro e w' ⟨rfl, mm, rfl⟩
  rw [show 0 + (runLen letterB s (a + 0).toNat : Int) = n from HN.out.symm]
  go_wp2_with fail
  have e3 : IntKind.i64.wrap (a + n) = a + n := IntWalk.i64_in _ (by omega)
  have e6 : a ≤ a + n := by omega
  go_region_with (go_at_call 25; refine (put_any B g s a l c v f 0 _ n m xs (w.drewN (mm + 1)) hs (HS.out.drewN _) HOWN.out HVG.out hBg hm ha (by omega) (by omega) hl0 hc0 hl hc).mono ?_; rintro e w' ⟨rfl, hR⟩)
  all_goals
    obtain ⟨v', hS', ho', hn', hB'⟩ := hR
    have HS' := mkHid hS'
    have HO' := mkHid ho'
    have HB' := mkHid hB'
    have HN' := mkHid hn'
    clear hS' ho' hB' hn'
    go_wp2_with fail
    go_ret
    exact ⟨rfl, ⟨v', HS'.out, HO'.out, HN'.out, hBg⟩, (⟨rfl, rfl, rfl, Nat.le_refl _, fun _ _ => rfl⟩ : Below B w (w.drewN (mm + 1))).trans HB'.out⟩

end Go.Proofs.Ytpolmnemknehaaa
