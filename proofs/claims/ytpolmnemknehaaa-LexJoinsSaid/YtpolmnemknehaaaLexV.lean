/- LexJoins: the law's walk. -/
import Derived.Test.YtpolmnemknehaaaLexU
set_option linter.unusedVariables false
set_option linter.unusedSimpArgs false
namespace Go.Proofs.Ytpolmnemknehaaa
open Go.RowKit

theorem joinL_len200 (ts : List Tok) (n : Nat) (h : ∀ T ∈ ts, T.t.length ≤ n) : (joinL ts).length ≤ ts.length * (n + 3) := by
  rw [← joinTo_all]; exact joinTo_len ts n h _
structure VRel (w : World) (ts : List Tok) (kq : Nat) (wr : World) (k : Int) : Prop where
  k0 : 0 ≤ k
  kn : k ≤ ts.length
  kk : (ts.length - k.toNat) ≤ kq
  all : ∀ i T, i < k.toNat → ts[i]? = some T → T.t.length ≤ 200
  below : Below w.heap.size w wr

set_option maxHeartbeats 2000000 in
set_option maxRecDepth 100000 in
theorem joins_any (A : Option Addr) (cap : Nat) (ts : List Tok) (w : World) (hcap : ts.length ≤ cap) (hm : cap ≤ maxLen) (h : ArgT w A ts) :
    Calls Try.prog 4 #[.slice A ts.length cap] w fun e w' => e = .returned (.bool true) ∧ Below w.heap.size w w' := by
  have H := mkHid h
  have hml : ts.length ≤ 9223372036854775807 := by unfold maxLen at hm; omega
  clear h
  go_enter Try.func4, Try.ntmps4
  by_cases hlong : 300 < ts.length
  · have q0 : decide ((300 : Int) < (ts.length : Int)) = true := decide_eq_true (by omega)
    go_wp2_with fail
    refine (lives_any _).mono ?_
    rintro e w' ⟨rfl, hB⟩
    have HB := mkHid hB
    clear hB
    go_wp2_with fail
    go_ret
    exact ⟨rfl, HB.out⟩
  have q0 : decide ((300 : Int) < (ts.length : Int)) = false := decide_eq_false (by omega)
  go_wp2_with fail
  go_loopg [3] ts.length (fun kq v3 wr => ∃ k : Int, v3 = .int .i64 k ∧ Hid (VRel w ts kq wr k))
  case atStart =>
    exact ⟨0, rfl, by omega, by omega, by omega, fun i T h => by simp at h, Below.refl _ _⟩
  case round =>
    obtain ⟨k, rfl, hR⟩ := hrel
    have k0 := hR.out.k0
    have kn := hR.out.kn
    have kk := hR.out.kk
    by_cases hkn : k < ts.length
    · obtain ⟨T, hT⟩ : ∃ T, ts[k.toNat]? = some T := ⟨_, List.getElem?_eq_getElem (h := by omega)⟩
      have HA := H.out.keeps hR.out.below
      obtain ⟨g, o, rfl, hg, d0, d1, d2, d3, _⟩ := HA _ _ hT
      have q1 : decide (k < (ts.length : Int)) = true := decide_eq_true hkn
      have hw1 : IntKind.i64.wrap (k + 1) = k + 1 := IntWalk.i64_in _ (by omega)
      have hTl := mkHid hT
      clear hT HA d0 d2 d3
      have hsz : (⟨T.t.toArray⟩ : ByteArray).size = T.t.length := size_list _
      by_cases hT2 : 200 < T.t.length
      · have q2 : decide ((200 : Int) < ((⟨T.t.toArray⟩ : ByteArray).size : Int)) = true := decide_eq_true (by omega)
        go_wp2_with fail
        refine (lives_any _).mono ?_
        rintro e w' ⟨rfl, hB⟩
        have HB := mkHid hB
        clear hB
        go_wp2_with fail
        go_ret
        exact ⟨rfl, below_tr hR.out.below HB.out⟩
      · have q2 : decide ((200 : Int) < ((⟨T.t.toArray⟩ : ByteArray).size : Int)) = false := decide_eq_false (by omega)
        go_wp2_with fail
        go_roundg (gk - 1)
        case measure => omega
        case rel =>
          refine ⟨k + 1, rfl, by omega, by omega, by omega, fun i U hi hU => ?_, hR.out.below⟩
          by_cases hik : i < k.toNat
          · exact hR.out.all i U hik hU
          · have : i = k.toNat := by omega
            subst this
            rw [hTl.out] at hU
            cases hU
            omega
    · have hall : ∀ T ∈ ts, T.t.length ≤ 200 := fun T hT => by
        obtain ⟨i, hi, e⟩ := List.getElem_of_mem hT
        exact hR.out.all i T (by omega) (by rw [List.getElem?_eq_getElem hi, e])
      have HALL := mkHid hall
      have q1 : decide (k < (ts.length : Int)) = false := decide_eq_false (by omega)
      clear hall
      go_wp2_with fail
      refine (mine_any A cap ts _ (by omega) (H.out.keeps hR.out.below)).mono ?_
      rintro e w1 ⟨v1, rfl, hown, hB1⟩
      obtain ⟨A1, m1, rfl, hm1, hc1⟩ := own_shape hown
      have HC1 := mkHid hc1
      have HB1 := mkHid hB1
      clear hown hc1 hB1
      have hjl := joinL_len200 ts 200 HALL.out
      go_wp2_with fail
      refine (join_any A1 ts.length m1 ts _ rfl (by omega) hm1 (by omega) ?_).mono ?_
      · intro h0
        obtain ⟨g, h1, _, h2, h3⟩ := HC1.out h0
        exact ⟨g, h1, h2, h3⟩
      rintro e w2 ⟨rfl, hB2⟩
      have HB2 := mkHid hB2
      clear hB2
      go_wp2_with fail
      refine (refJoin_any A cap ts _ (by omega) HALL.out ?_).mono ?_
      · exact (H.out.keeps hR.out.below).keeps (below_tr HB1.out HB2.out)
      rintro e w3 ⟨rfl, hB3⟩
      have HB3 := mkHid hB3
      clear hB3
      have q3 : (0:Nat) = 0 := rfl
      go_wp2_with fail
      refine (lives_any _).mono ?_
      rintro e w' ⟨rfl, hB⟩
      have HB := mkHid hB
      clear hB
      go_wp2_with fail
      go_ret
      exact ⟨rfl, below_tr (below_tr (below_tr (below_tr hR.out.below HB1.out) HB2.out) HB3.out) HB.out⟩
end Go.Proofs.Ytpolmnemknehaaa
