/- Own rows of a struct's cells, and slices.SortFunc by comm.order on them. -/
import Derived.Test.YtikjfonedddlpaaOrdD
import Derived.Test.YtikjfonedddlpaaSort
import Derived.Test.YtikjfonedddlpaaPO1
import Derived.Test.YtikjfonedddlpaaPx0
import Derived.Test.YtikjfonedddlpaaPx5
namespace Go.Proofs.Ytikjfonedddlpaa.P
open Go.RowKit Go.Sort Go.Proofs.YtikjfonedddlpaaW.PrintWords Go.Proofs.YtikjfonedddlpaaW.PrintLast Go.Proofs.YtikjfonedddlpaaW.PrintMore
set_option linter.unusedVariables false
set_option linter.unusedSimpArgs false

def encC (x : S23) : List Value := [.int .i64 x.f0, .int .i64 x.f1]
instance : Inhabited S23 := ⟨⟨0, 0⟩⟩
/-- the cells of an own row -/
theorem own_cells {w : World} {base g n cap : Nat} {ok : Nat → Prop} {l : List S23} (h : Kd.R k23 23 w base ok (.slice (some ⟨g, 0, none⟩) n cap) l) :
    ∃ cur : Array Value, w.heap[g]? = some (.cells cur 23 (0, 0)) ∧ cur.size = cap * 2 ∧ n = l.length ∧ n ≤ cap ∧ cap ≤ maxLen ∧ base ≤ g ∧ ok g ∧
      ∀ (j : Nat) (x : S23), l[j]? = some x → ∀ (i : Nat) (u : Value), (encC x)[i]? = some u → cur.toList[j * 2 + i]? = some u := by
  obtain ⟨h0, inner, ⟨hl, hr⟩, hrep⟩ := h
  rcases hr with ⟨he, _⟩ | ⟨g', cap', cur, he, hb, hh, hn, hm, hs, ht⟩
  · cases he
  · injection he with e1 e2 e3
    injection e1 with e1
    injection e1 with e1
    subst e1; subst e2; subst e3
    refine ⟨cur, hh, hs, rfl, hn, hm, hb, h0 _ rfl, ?_⟩
    intro j x hx i u hu
    have e : (inner.drop (j * 2)).take 2 = encC x := k23_openM (hrep.2 j x hx)
    have hi3 : i < 2 := (List.getElem?_eq_some_iff.1 hu).1
    have this : inner[j * 2 + i]? = some u := by
      rw [← e, List.getElem?_take_of_lt hi3, List.getElem?_drop] at hu
      exact hu
    have ht' : cur.toList.take (l.length * 2) = inner := ht
    rw [← ht'] at this
    have hi : j * 2 + i < l.length * 2 := by
      have h1 : j < l.length := (List.getElem?_eq_some_iff.1 hx).1
      have h2 : i < (encC x).length := (List.getElem?_eq_some_iff.1 hu).1
      have h3 : (encC x).length = 2 := rfl
      rw [h3] at h2
      omega
    rwa [List.getElem?_take_of_lt hi] at this
theorem own_of_cells {w : World} {base g cap : Nat} {ok : Nat → Prop} {l : List S23} {cur : Array Value} (hh : w.heap[g]? = some (.cells cur 23 (0, 0))) (hs : cur.size = cap * 2) (hn : l.length ≤ cap) (hm : cap ≤ maxLen) (hb : base ≤ g) (hok : ok g)
    (hc : ∀ (j : Nat) (x : S23), l[j]? = some x → ∀ (i : Nat) (u : Value), (encC x)[i]? = some u → cur.toList[j * 2 + i]? = some u) :
    Kd.R k23 23 w base ok (.slice (some ⟨g, 0, none⟩) l.length cap) l := by
  have hsl : cur.toList.length = cap * 2 := by rw [Array.length_toList]; exact hs
  refine ⟨fun k hk => by simp [Value.ownBlock] at hk; subst hk; exact hok, cur.toList.take (l.length * 2), ⟨?_, .inr ⟨g, cap, cur, rfl, hb, hh, hn, hm, hs, rfl⟩⟩, ?_⟩
  · rw [List.length_take, hsl]
    show min (l.length * 2) (cap * 2) = l.length * 2
    omega
  · refine ⟨?_, ?_⟩
    · rw [List.length_take, hsl]
      show min (l.length * 2) (cap * 2) = l.length * 2
      omega
    · intro j x hx
      have e : ((cur.toList.take (l.length * 2)).drop (j * 2)).take 2 = encC x := by
        have h1 : j < l.length := (List.getElem?_eq_some_iff.1 hx).1
        apply List.ext_getElem?
        intro i
        by_cases hi : i < 2
        · rw [List.getElem?_take_of_lt hi, List.getElem?_drop, List.getElem?_take_of_lt (by omega)]
          have h2 : i < (encC x).length := hi
          rw [List.getElem?_eq_getElem h2]
          exact hc j x hx i _ (List.getElem?_eq_getElem h2)
        · rw [List.getElem?_eq_none (by rw [List.length_take]; omega), List.getElem?_eq_none (by show (encC x).length ≤ i; have : (encC x).length = 2 := rfl; omega)]
      show Kd.M k23 _ _ _ x (((cur.toList.take (l.length * 2)).drop (j * 2)).take 2)
      rw [e]
      exact k23_mkM _ _ _ _
def sortC (l : List S23) : List S23 := l.mergeSort fun x y => !(ltOf ordC) y x
theorem ordC_swo : SWO (ltOf ordC) := by
  refine ⟨fun x => ?_, fun x y z h1 h2 => ?_, fun x y z h1 h2 => ?_⟩
  · unfold ltOf; rw [ordC_ord.self]; rfl
  · unfold ltOf at *
    have h1 := of_decide_eq_true h1
    have h2 := of_decide_eq_true h2
    have h3 := ordC_ord.2 x y z (by omega) (by omega)
    have h4 := ordC_ord.zero (a := x) (b := y) (d := z) (by omega) (by omega)
    exact decide_eq_true (by omega)
  · unfold ltOf at *
    have h1 := of_decide_eq_false h1
    have h2 := of_decide_eq_false h2
    have e1 := ordC_ord.1 x y
    have e2 := ordC_ord.1 y z
    have e3 := ordC_ord.1 x z
    have h3 := ordC_ord.2 z y x (by omega) (by omega)
    exact decide_eq_false (by omega)
set_option maxHeartbeats 1000000 in
theorem sort_comm (v : Value) (l : List S23) (base : Nat) (w : World) (HR : Kd.R k23 23 w base (fun _ => True) v l) (hl : l.length ≤ 1000000) :
    Calls Try.prog 42 #[v, .func (.func 43) #[] #[]] w fun e w' => e = .returned (.tuple #[]) ∧ Kd.R k23 23 w' base (fun _ => True) v (sortC l) ∧ Below base w w' := by
  have hnil : ∀ (p : Option Addr) (cap : Nat), v = .slice p 0 cap → l = [] → Calls Try.prog 42 #[v, .func (.func 43) #[] #[]] w fun e w' => e = .returned (.tuple #[]) ∧ Kd.R k23 23 w' base (fun _ => True) v (sortC l) ∧ Below base w w' := by
    intro p cap hv e0
    subst hv
    refine (Go.Proofs.AnyF.slices_SortFunc_none Try.sortX p cap _ w).mono ?_
    rintro e w' ⟨rfl, rfl⟩
    refine ⟨rfl, ?_, Below.refl _ _⟩
    subst e0
    rw [show sortC [] = [] from by simp [sortC]]
    exact HR
  obtain ⟨p, cap, hv⟩ := Kd.R_slice HR
  by_cases h0 : l = []
  · exact hnil p cap (by rw [hv, h0]; rfl) h0
  · have hpos : 0 < l.length := List.length_pos_iff.2 h0
    obtain ⟨g, hg⟩ : ∃ g, p = some ⟨g, 0, none⟩ := by
      obtain ⟨_, inner, ⟨_, hr⟩, _⟩ := HR
      rcases hr with ⟨he, hz⟩ | ⟨g, cap', cur, he, _⟩
      · omega
      · rw [hv] at he
        injection he with e1
        exact ⟨g, e1⟩
    subst hg
    subst hv
    obtain ⟨cur, hh, hs, _, hn, hm, hb, _, hc⟩ := own_cells HR
    have hH : HoldsK encC 2 w g 0 l.toArray := by
      intro t ht
      rw [size_flatK] at ht
      have ht2 : t < l.length * 2 := by simpa using ht
      rw [get_flatK _ _ _ _ (by simpa using ht2)]
      have hj : t / 2 < l.length := by omega
      have hx : l[t / 2]? = some l.toArray[t / 2]! := by simp [hj]
      have hi : t % 2 < (encC l.toArray[t / 2]!).length := Nat.mod_lt _ (by decide)
      have hu : (encC l.toArray[t / 2]!)[t % 2]? = some (encC l.toArray[t / 2]!)[t % 2]! := by rw [List.getElem?_eq_getElem hi, getElem!_pos (encC l.toArray[t / 2]!) (t % 2) hi]
      have hcell := hc _ _ hx _ _ hu
      rw [show t / 2 * 2 + t % 2 = t by omega] at hcell
      rw [Nat.zero_add]
      refine ⟨?_, by simp [World.frozen?, hh]⟩
      rw [cell_of_row w g t cur _ (0, 0) hh, ← Array.getElem?_toList]
      exact hcell
    have hblk : g < w.heap.size := by
      rcases Nat.lt_or_ge g w.heap.size with h | h
      · exact h
      · rw [Array.getElem?_eq_none h] at hh; cases hh
    refine (Go.Proofs.AnyQ.slices_SortFunc_total Try.sortX 2 Try.isAgg23 Try.sizeOf23 encC (fun _ => rfl) (fun x u hu => by simp [encC] at hu; rcases hu with rfl | rfl <;> rfl) ordC ordC_swo 43 #[] g 0 cap l.toArray w (fun _ _ => by go_simp)
      (fun m os dk _ x y => (order_grow x y _).mono fun e w' h => h) hH hblk (by simp; omega) (fun x y h1 h2 => ?_)).mono ?_
    · unfold ltOf at h1 h2
      have h1 := of_decide_eq_false h1
      have h2 := of_decide_eq_false h2
      have e1 := ordC_ord.1 x y
      exact (ordC_zero x y).1 (by omega)
    · rintro e w' ⟨rfl, n, os, rfl⟩
      have hperm : (sortC l).length = l.length := by unfold sortC; exact List.length_mergeSort _
      refine ⟨rfl, ?_, ?_⟩
      · have hH2 := holdsK_sortWorldK_c encC 2 w g 0 l.toArray (sortC l).toArray n os hH hblk (by simp [hperm])
        have hcur2 : ∃ cur2 : Array Value, (sortWorldK encC 2 w g 0 n (sortC l).toArray os).heap[g]? = some (.cells cur2 23 (0, 0)) ∧ cur2.size = cur.size := by
          unfold sortWorldK putRowK
          rw [heap_grow_old _ _ (by rw [size_putRow]; exact hblk)]
          unfold putRow mapBlock
          refine ⟨putCells id 0 (flatK encC 2 (sortC l).toArray) cur, ?_, by simp [putCells]⟩
          show ((Go.Sort.ahead w n).heap.modify g _)[g]? = _
          rw [Array.getElem?_modify]
          show (if g = g then (w.heap[g]?).map _ else _) = _
          rw [if_pos rfl, hh]; rfl
        obtain ⟨cur2, h2, h3⟩ := hcur2
        rw [show l.length = (sortC l).length from hperm.symm]
        refine own_of_cells (l := sortC l) h2 (by rw [h3]; exact hs) (by rw [hperm]; exact hn) hm hb trivial ?_
        intro j x hx i u hu
        have hj : j < (sortC l).toArray.size := by have := (List.getElem?_eq_some_iff.1 hx).1; simpa using this
        have hi : i < 2 := (List.getElem?_eq_some_iff.1 hu).1
        have hcl := (HoldsK.cell hH2 hj hi).1
        rw [Nat.zero_add, cell_of_row _ g _ cur2 _ (0, 0) h2] at hcl
        have ex : (sortC l).toArray[j]! = x := by
          have := (List.getElem?_eq_some_iff.1 hx).2
          rw [getElem!_pos (sortC l).toArray j hj]; simpa using this
        rw [ex] at hcl
        rw [Array.getElem?_toList, hcl]
        have hu2 : i < (encC x).length := hi
        rw [List.getElem?_eq_getElem hu2] at hu
        rw [getElem!_pos (encC x) i hu2]
        exact hu
      · refine ⟨rfl, rfl, rfl, ?_, ?_⟩
        · unfold sortWorldK putRowK
          rw [size_grow, size_putRow]
          show w.heap.size ≤ w.heap.size + os.size
          omega
        · intro k hk
          unfold sortWorldK putRowK
          have hk2 : k < w.heap.size := by omega
          rw [heap_grow_old _ _ (by rw [size_putRow]; exact hk2)]
          unfold putRow mapBlock
          show ((Go.Sort.ahead w n).heap.modify g _)[k]? = _
          rw [Array.getElem?_modify, if_neg (by omega)]; rfl
end Go.Proofs.Ytikjfonedddlpaa.P
