/- The walk of put: the token is appended to the scanner's own list and the scanner goes on, where the bounds on the list and the text hold. -/
import Derived.Test.YtpolmnemknehaaaLexB
import Derived.RegionTactic
import Derived.Deep.RegionLaw
import Derived.Deep.AppendLies
import Derived.OwnWalk
set_option linter.unusedVariables false
set_option linter.unusedSimpArgs false
namespace Go.Proofs.Ytpolmnemknehaaa
open Go.RowKit

theorem next_any (g : Nat) (s : ByteArray) (a n : Int) (l c : Int) (v : Value) (f : Bool) (w : World) (hs : s.size ≤ 140737488351232) (h : Sc w g s a l c v f) (ha : 0 ≤ a) (hn0 : 0 ≤ n) (hn : a + n ≤ s.size) (hl0 : 0 ≤ l) (hc0 : 0 ≤ c) (hl : l ≤ 140737488351232) (hc : c ≤ 140737488351232):
    Calls Try.prog 21 #[.pointer (some ⟨g, 0, none⟩), .int .i64 n] w fun e w' => e = .returned (.tuple #[]) ∧
      Sc w' g s (a + n) (advs (l, c) ((s.data.toList.drop a.toNat).take n.toNat)).1 (advs (l, c) ((s.data.toList.drop a.toNat).take n.toNat)).2 v f ∧ w.grownBy w' (some g) := by
  obtain ⟨a, rfl⟩ := Int.eq_ofNat_of_zero_le ha
  obtain ⟨n, rfl⟩ := Int.eq_ofNat_of_zero_le hn0
  refine (next_any0 g s a n l c v f w hs h (by omega) hl0 hc0 hl hc).mono fun e w' ⟨h1, h2, h3⟩ => ⟨h1, ?_, h3⟩
  rw [Int.toNat_natCast, Int.toNat_natCast, ← Int.natCast_add]; exact h2

theorem info31 : (Try.prog.info? 31).map (fun i => (i.zero, i.size, i.bytes)) = some (some (.agg #[(.int .i64 0), (.string ⟨#[]⟩), (.int .i64 0), (.int .i64 0)]), 4, 40) := by kernel_rfl

set_option maxHeartbeats 2000000 in
set_option maxRecDepth 100000 in
theorem put_any (B g : Nat) (s : ByteArray) (a l c : Int) (v : Value) (f : Bool) (k : Int) (t : ByteArray) (n : Int) (m : Nat) (xs : List Value) (w : World) (hs : s.size ≤ 140737488351232)
    (h : Sc w g s a l c v f) (hown : w.ownsRow B 31 4 v m xs) (hvg : v.ownBlock ≠ some g) (hBg : B ≤ g) (hm : m ≤ 1000000)
    (ha : 0 ≤ a) (hn0 : 0 ≤ n) (hn : a + n ≤ s.size) (hl0 : 0 ≤ l) (hc0 : 0 ≤ c) (hl : l ≤ 140737488351232) (hc : c ≤ 140737488351232) :
    Calls Try.prog 25 #[.pointer (some ⟨g, 0, none⟩), .int .i64 k, .string t, .int .i64 n] w fun e w' => e = .returned (.tuple #[]) ∧ ∃ v', 
      Sc w' g s (a + n) (advs (l, c) ((s.data.toList.drop a.toNat).take n.toNat)).1 (advs (l, c) ((s.data.toList.drop a.toNat).take n.toNat)).2 v' (k == 2) ∧
      w'.ownsRow B 31 4 v' (m + 1) (xs ++ [.int .i64 k, .string t, .int .i64 l, .int .i64 c]) ∧ v'.ownBlock ≠ some g ∧ Below B w w' := by
  obtain ⟨i0, hi0, hz0, hz1, hz2⟩ := info_parts info31
  have HS : Hid (Sc w g s a l c v f) := h
  obtain ⟨c0, c1, c2, c3, c4, c5, cf⟩ := h.cells
  have f4 := cf 4
  have hg : g < w.heap.size := lt_of_block h
  clear h
  go_enter Try.func25, Try.ntmps25
  go_wp2_with fail
  go_region_law
    ((refine step_append_lies _ (by rfl) _ _ _ (by rfl) B 31 i0 _ 4 40 Try.underlying23 hi0 hz0 hz1 hz2 rfl (by omega) v m xs (by rfl) ((hown.alloc _).drew)
        ⟨w.heap.size, 0, none⟩ 1 1 [.int .i64 k, .string t, .int .i64 l, .int .i64 c] (by rfl) (by rfl) (World.news_of_block (cs := #[.int .i64 k, .string t, .int .i64 l, .int .i64 c]) (t := 31) (fr := (0, 0)) (heap_alloc_new w _)) (by simp [Value.oneCell'])
        (by omega) (by unfold maxLen; omega) (by omega) (by simp; omega) (w.heap.size + 1) (by simp) ?_; intro gg cap w1 hown1 hgrow hat hlt; have q4 : w1.cell? ⟨g, 4, none⟩ = some v := (by rw [hgrow.cell_far _ (by simp; omega) (Ne.symm hvg)]; go_simp); have qf : w1.frozen? ⟨g, 4, none⟩ = false := (by rw [hgrow.frozen_far _ (by simp; omega) (Ne.symm hvg)]; go_simp)))
  all_goals
    have hS1 : Sc (w1.setCell ⟨g, 4, none⟩ (.slice (some ⟨gg, 0, none⟩) (m + 1) cap)) g s a l c (.slice (some ⟨gg, 0, none⟩) (m + 1) cap) f := by
      refine Sc.set4 (v := v) ?_ _
      unfold Sc
      rw [hgrow.block g (by simp; omega) (Ne.symm hvg)]
      exact (heap_alloc_old w _ hg).trans HS.out
    have hgg : gg ≠ g := by
      rcases hat with h | h
      · rintro rfl; exact hvg h
      · omega
    have hown2 := ownsRow_setCell_other hown1 (a := ⟨g, 4, none⟩) (by simpa [Value.ownBlock] using hgg) (.slice (some ⟨gg, 0, none⟩) (m + 1) cap)
    have hB1 : Below B w (w1.setCell ⟨g, 4, none⟩ (.slice (some ⟨gg, 0, none⟩) (m + 1) cap)) := by
      refine Below.setCell (Below.grown ((Below.refl B w).alloc (by omega) _).drew hgrow (by simp; omega) (fun k hk => (hown.lt k hk).1)) hBg _
    have HS1 : Hid (Sc _ _ _ _ _ _ _ _) := hS1
    have HOWN2 : Hid (World.ownsRow _ _ _ _ _ _ _) := hown2
    have HB1 : Hid (Below _ _ _) := hB1
    clear hS1 hown2 hB1 hown1 hgrow hat q4 qf c0 c1 c2 c3 c4 c5 cf f4 hown hvg
    generalize hW : w1.setCell ⟨g, 4, none⟩ (.slice (some ⟨gg, 0, none⟩) (m + 1) cap) = W1 at *
    clear hW
    go_wp2_with fail
    refine (next_any g s a n l c _ f _ hs HS1.out ha hn0 hn hl0 hc0 hl hc).mono ?_
    rintro e w' ⟨rfl, hS2, hg2⟩
    have hl2 : v = v := rfl
    obtain ⟨d0, d1, d2, d3, d4, d5, df⟩ := hS2.cells
    have e5 := df 5
    have HS2 : Hid (Sc _ _ _ _ _ _ _ _) := hS2
    have HG2 : Hid (World.grownBy _ _ _) := hg2
    clear hS2 hg2 d0 d1 d2 d3 d4 df hl2
    go_wp2
    go_end0
    have hg5 : g ≠ gg := fun h => hgg h.symm
    refine ⟨rfl, .slice (some ⟨gg, 0, none⟩) (m + 1) cap, HS2.out.set5 _, ?_, by simpa [Value.ownBlock] using hgg, ?_⟩
    · exact ownsRow_setCell_other (HOWN2.out.kept HG2.out (.inr (by simpa [Value.ownBlock] using hgg))) (by simpa [Value.ownBlock] using hgg) _
    · exact (Below.grown HB1.out HG2.out (by have := HB1.out.size; omega) (fun k hk => by cases hk; exact hBg)).setCell hBg _
end Go.Proofs.Ytpolmnemknehaaa
