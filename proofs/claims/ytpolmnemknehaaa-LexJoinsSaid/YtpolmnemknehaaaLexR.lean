/- LexJoins: the walk of what makes the program's tokens. -/
import Derived.Test.YtpolmnemknehaaaLexO
import Derived.RegionTactic
import Derived.Deep.RegionLaw
import Derived.Deep.AppendLies
import Derived.OwnWalk
set_option linter.unusedVariables false
set_option linter.unusedSimpArgs false
namespace Go.Proofs.Ytpolmnemknehaaa
open Go.RowKit

theorem toksCells_snoc (ts : List Tok) (t : Tok) : toksCells (ts ++ [t]) = toksCells ts ++ [.int .i64 t.k, .string ⟨t.t.toArray⟩, .int .i64 t.l, .int .i64 t.c] := by
  unfold toksCells; simp; rfl
theorem take_snoc {α : Type} (l : List α) (k : Nat) (x : α) (h : l[k]? = some x) : l.take (k + 1) = l.take k ++ [x] := by
  rw [List.take_add_one, h]; rfl
structure MRel (w : World) (ts : List Tok) (kq : Nat) (wr : World) (k : Int) (v : Value) : Prop where
  k0 : 0 ≤ k
  kn : k ≤ ts.length
  kk : (ts.length - k.toNat) ≤ kq
  own : wr.ownsRow w.heap.size 31 4 v k.toNat (toksCells (ts.take k.toNat))
  below : Below w.heap.size w wr

set_option maxHeartbeats 2000000 in
set_option maxRecDepth 100000 in
theorem mine_any (A : Option Addr) (cap : Nat) (ts : List Tok) (w : World) (hn : ts.length ≤ 300) (h : ArgT w A ts) :
    Calls Try.prog 10 #[.slice A ts.length cap] w fun e w' => ∃ v, e = .returned v ∧ w'.ownsRow w.heap.size 31 4 v ts.length (toksCells ts) ∧ Below w.heap.size w w' := by
  obtain ⟨i0, hi0, hz0, hz1, hz2⟩ := info_parts info31
  have H := mkHid h
  clear h
  go_enter Try.func10, Try.ntmps10
  go_wp2_with fail
  go_loopg [4, 3] ts.length (fun kq v4 v3 wr => ∃ k : Int, v4 = .int .i64 k ∧ Hid (MRel w ts kq wr k v3))
  case atStart =>
    refine ⟨0, rfl, by omega, by omega, by omega, ?_, Below.refl _ _⟩
    exact World.ownsRow_nil _ _ _ _
  case round =>
    obtain ⟨k, rfl, hR⟩ := hrel
    have k0 := hR.out.k0
    have kn := hR.out.kn
    by_cases hkn : k < ts.length
    · obtain ⟨T, hT⟩ : ∃ T, ts[k.toNat]? = some T := ⟨_, List.getElem?_eq_getElem (h := by omega)⟩
      have HA := H.out.keeps hR.out.below
      obtain ⟨g, o, rfl, hg, d0, d1, d2, d3, _⟩ := HA _ _ hT
      have q1 : decide (k < (ts.length : Int)) = true := decide_eq_true hkn
      have hw1 : IntKind.i64.wrap (k + 1) = k + 1 := IntWalk.i64_in _ (by omega)
      have hTl := mkHid hT
      have hkk := hR.out.kk
      have hown := hR.out.own
      have hBw := hR.out.below.size
      clear hT HA
      go_wp2_with fail
      go_region_law
        ((refine step_append_lies _ (by rfl) _ _ _ (by rfl) w.heap.size 31 i0 _ 4 40 Try.underlying23 hi0 hz0 hz1 hz2 rfl (by omega) _ k.toNat (toksCells (ts.take k.toNat)) (by rfl) ((hown.alloc _).drew)
            ⟨wr.heap.size, 0, none⟩ 1 1 [.int .i64 T.k, .string ⟨T.t.toArray⟩, .int .i64 T.l, .int .i64 T.c] (by rfl) (by rfl) (World.news_of_block (cs := #[.int .i64 T.k, .string ⟨T.t.toArray⟩, .int .i64 T.l, .int .i64 T.c]) (t := 31) (fr := (0, 0)) (heap_alloc_new wr _)) (by simp [Value.oneCell'])
            (by omega) (by unfold maxLen; omega) (by omega) (by simp; omega) (wr.heap.size + 1) (by simp) ?_; intro gg cap2 w1 hown1 hgrow hat hlt))
      all_goals
        have HJ : Hid (MRel w ts (gk - 1) w1 (k + 1) (.slice (some ⟨gg, 0, none⟩) (k.toNat + 1) cap2)) := by
          have e : (k + 1).toNat = k.toNat + 1 := by omega
          refine ⟨by omega, by omega, by omega, ?_, ?_⟩
          · rw [e, take_snoc ts k.toNat T hTl.out, toksCells_snoc]; exact hown1
          · exact Below.grown ((hR.out.below.alloc (by omega) _).drew) hgrow (by simp; omega) (fun k hk => (hown.lt k hk).1)
        clear hown1 hgrow hat hown d0 d1 d2 d3
        go_wp2_with fail
        go_roundg (gk - 1)
        case measure => omega
        case rel => exact ⟨k + 1, rfl, HJ.out⟩
    · go_wp2_with fail
      go_ret
      have e : k.toNat = ts.length := by omega
      refine ⟨_, rfl, ?_, hR.out.below⟩
      have := hR.out.own
      rw [e, List.take_length] at this
      exact this
end Go.Proofs.Ytpolmnemknehaaa
