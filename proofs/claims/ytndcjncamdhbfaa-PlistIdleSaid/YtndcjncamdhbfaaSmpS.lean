/- Own rows of prefixes, and slices.SortFunc by plist.samples' comparison on prefixes that may be. -/
import Derived.Test.YtndcjncamdhbfaaSmpQ
import Derived.Test.YtndcjncamdhbfaaSort
import Derived.Test.YtndcjncamdhbfaaPx0
namespace Go.Proofs.Ytndcjncamdhbfaa.P
open Go.RowKit Go.Sort Go.Proofs.YtndcjncamdhbfaaW.PrintWords Go.Proofs.YtndcjncamdhbfaaW.PrintLast Go.Proofs.YtndcjncamdhbfaaW.PrintMore
set_option linter.unusedVariables false
set_option linter.unusedSimpArgs false

def encP (x : S24) : List Value := [.int .u32 x.f0, .int .i64 x.f1]
/-- the cells of an own row -/
theorem own_cells {w : World} {base g n cap : Nat} {ok : Nat → Prop} {l : List S24} (h : Kd.R k24 24 w base ok (.slice (some ⟨g, 0, none⟩) n cap) l) :
    ∃ cur : Array Value, w.heap[g]? = some (.cells cur 24 (0, 0)) ∧ cur.size = cap * 2 ∧ n = l.length ∧ n ≤ cap ∧ cap ≤ maxLen ∧ base ≤ g ∧ ok g ∧
      ∀ (j : Nat) (x : S24), l[j]? = some x → ∀ (i : Nat) (u : Value), (encP x)[i]? = some u → cur.toList[j * 2 + i]? = some u := by
  obtain ⟨h0, inner, ⟨hl, hr⟩, hrep⟩ := h
  rcases hr with ⟨he, _⟩ | ⟨g', cap', cur, he, hb, hh, hn, hm, hs, ht⟩
  · cases he
  · injection he with e1 e2 e3
    injection e1 with e1
    injection e1 with e1
    subst e1; subst e2; subst e3
    refine ⟨cur, hh, hs, rfl, hn, hm, hb, h0 _ rfl, ?_⟩
    intro j x hx i u hu
    have e : (inner.drop (j * 2)).take 2 = encP x := k24_openM (hrep.2 j x hx)
    have hi3 : i < 2 := (List.getElem?_eq_some_iff.1 hu).1
    have this : inner[j * 2 + i]? = some u := by
      rw [← e, List.getElem?_take_of_lt hi3, List.getElem?_drop] at hu
      exact hu
    have ht' : cur.toList.take (l.length * 2) = inner := ht
    rw [← ht'] at this
    have hi : j * 2 + i < l.length * 2 := by
      have h1 : j < l.length := (List.getElem?_eq_some_iff.1 hx).1
      have h2 : i < (encP x).length := (List.getElem?_eq_some_iff.1 hu).1
      have h3 : (encP x).length = 2 := rfl
      rw [h3] at h2
      omega
    rwa [List.getElem?_take_of_lt hi] at this
theorem own_of_cells {w : World} {base g cap : Nat} {ok : Nat → Prop} {l : List S24} {cur : Array Value} (hh : w.heap[g]? = some (.cells cur 24 (0, 0))) (hs : cur.size = cap * 2) (hn : l.length ≤ cap) (hm : cap ≤ maxLen) (hb : base ≤ g) (hok : ok g)
    (hc : ∀ (j : Nat) (x : S24), l[j]? = some x → ∀ (i : Nat) (u : Value), (encP x)[i]? = some u → cur.toList[j * 2 + i]? = some u) :
    Kd.R k24 24 w base ok (.slice (some ⟨g, 0, none⟩) l.length cap) l := by
  have hsl : cur.toList.length = cap * 2 := by rw [Array.length_toList]; exact hs
  refine ⟨fun k hk => by simp [Value.ownBlock] at hk; subst hk; exact hok, cur.toList.take (l.length * 2), ⟨?_, .inr ⟨g, cap, cur, rfl, hb, hh, hn, hm, hs, rfl⟩⟩, ?_⟩
  · rw [List.length_take, hsl]
    show min (l.length * 2) (cap * 2) = l.length * 2
    omega
  · refine ⟨?_, ?_⟩
    · rw [List.length_take, hsl]
      show min (l.length * 2) (cap * 2) = l.length * 2
      omega
    · intro j x hx
      have e : ((cur.toList.take (l.length * 2)).drop (j * 2)).take 2 = encP x := by
        have h1 : j < l.length := (List.getElem?_eq_some_iff.1 hx).1
        apply List.ext_getElem?
        intro i
        by_cases hi : i < 2
        · rw [List.getElem?_take_of_lt hi, List.getElem?_drop, List.getElem?_take_of_lt (by omega)]
          have h2 : i < (encP x).length := hi
          rw [List.getElem?_eq_getElem h2]
          exact hc j x hx i _ (List.getElem?_eq_getElem h2)
        · rw [List.getElem?_eq_none (by rw [List.length_take]; omega), List.getElem?_eq_none (by show (encP x).length ≤ i; have : (encP x).length = 2 := rfl; omega)]
      show Kd.M k24 _ _ _ x (((cur.toList.take (l.length * 2)).drop (j * 2)).take 2)
      rw [e]
      exact k24_mkM _ _ _ _
def okP (x : S24) : Prop := isA x.f0 ∧ mayB x.f0 x.f1 = true
abbrev PS := {x : S24 // okP x}
instance : Inhabited PS := ⟨⟨⟨0, 0⟩, ⟨⟨Int.le_refl 0, by show (0 : Int) ≤ 4294967295; omega⟩, by decide⟩⟩⟩
def encA (x : PS) : List Value := encP x.1
def ordA (x y : PS) : Int := ordS x.1 y.1
theorem ltS_iff (x y : S24) : ltOf ordS x y = befS x.f0 x.f1 y.f0 y.f1 := by
  unfold ltOf ordS
  by_cases h : befS x.f0 x.f1 y.f0 y.f1 = true
  · rw [if_pos h, h]; rfl
  · rw [if_neg h]
    have h := Bool.eq_false_iff.2 h
    rw [h]
    split <;> rfl
theorem befS_iff (a n b m : Int) : befS a n b m = true ↔ (a < b ∨ (a = b ∧ n < m)) := by
  unfold befS; simp
theorem befS_false (a n b m : Int) : befS a n b m = false ↔ ¬ (a < b ∨ (a = b ∧ n < m)) := by
  rw [← befS_iff]; simp
def sortS (l : List S24) : List S24 := l.mergeSort fun x y => !(ltOf ordS) y x
theorem ordA_swo : SWO (ltOf ordA) := by
  have e : ∀ x y : PS, ltOf ordA x y = befS x.1.f0 x.1.f1 y.1.f0 y.1.f1 := fun x y => ltS_iff x.1 y.1
  refine ⟨fun x => ?_, fun x y z h1 h2 => ?_, fun x y z h1 h2 => ?_⟩
  · rw [e, befS_false]; omega
  · rw [e, befS_iff] at *; omega
  · rw [e, befS_false] at *; omega
theorem sortA_map (la : List PS) : (la.mergeSort fun x y => !(ltOf ordA) y x).map (fun x => x.1) = sortS (la.map fun x => x.1) := by
  unfold sortS
  exact List.map_mergeSort (fun a _ b _ => rfl)
set_option maxHeartbeats 1000000 in
theorem sort_smp (v : Value) (la : List PS) (l : List S24) (hla : l = la.map fun x => x.1) (base : Nat) (w : World) (HR : Kd.R k24 24 w base (fun _ => True) v l) (hl : l.length ≤ 1000000) :
    Calls Try.prog 52 #[v, .func (.func 53) #[] #[]] w fun e w' => e = .returned (.tuple #[]) ∧ Kd.R k24 24 w' base (fun _ => True) v (sortS l) ∧ Below base w w' ∧ (∀ (q : Nat) (cs : Array Value) (ty : TypeId), 24 ≠ ty → w.heap[q]? = some (.cells cs ty (0, 0)) → w'.heap[q]? = some (.cells cs ty (0, 0))) := by
  have hnil : ∀ (p : Option Addr) (cap : Nat), v = .slice p 0 cap → l = [] → Calls Try.prog 52 #[v, .func (.func 53) #[] #[]] w fun e w' => e = .returned (.tuple #[]) ∧ Kd.R k24 24 w' base (fun _ => True) v (sortS l) ∧ Below base w w' ∧ (∀ (q : Nat) (cs : Array Value) (ty : TypeId), 24 ≠ ty → w.heap[q]? = some (.cells cs ty (0, 0)) → w'.heap[q]? = some (.cells cs ty (0, 0))) := by
    intro p cap hv e0
    subst hv
    refine (Go.Proofs.AnyF.slices_SortFunc_none Try.sortX p cap _ w).mono ?_
    rintro e w' ⟨rfl, rfl⟩
    refine ⟨rfl, ?_, Below.refl _ _, fun _ _ _ _ h => h⟩
    subst e0
    rw [show sortS [] = [] from by simp [sortS]]
    exact HR
  obtain ⟨p, cap, hv⟩ := Kd.R_slice HR
  by_cases h0 : l = []
  · exact hnil p cap (by rw [hv, h0]; rfl) h0
  · have hpos : 0 < l.length := List.length_pos_iff.2 h0
    obtain ⟨g, hg⟩ : ∃ g, p = some ⟨g, 0, none⟩ := by
      obtain ⟨_, inner, ⟨_, hr⟩, _⟩ := HR
      rcases hr with ⟨he, hz⟩ | ⟨g, cap', cur, he, _⟩
      · omega
      · rw [hv] at he
        injection he with e1
        exact ⟨g, e1⟩
    subst hg
    subst hv
    obtain ⟨cur, hh, hs, _, hn, hm, hb, _, hc⟩ := own_cells HR
    have hll : la.length = l.length := by rw [hla, List.length_map]
    have hH : HoldsK encA 2 w g 0 la.toArray := by
      intro t ht
      rw [size_flatK] at ht
      have ht2 : t < la.length * 2 := by simpa using ht
      rw [get_flatK _ _ _ _ (by simpa using ht2)]
      have hj : t / 2 < la.length := by omega
      have hx : l[t / 2]? = some la.toArray[t / 2]!.1 := by rw [hla, List.getElem?_map]; simp [hj]
      have hi : t % 2 < (encA la.toArray[t / 2]!).length := Nat.mod_lt _ (by decide)
      have hu : (encA la.toArray[t / 2]!)[t % 2]? = some (encA la.toArray[t / 2]!)[t % 2]! := by rw [List.getElem?_eq_getElem hi, getElem!_pos (encA la.toArray[t / 2]!) (t % 2) hi]
      have hcell := hc _ _ hx _ _ hu
      rw [show t / 2 * 2 + t % 2 = t by omega] at hcell
      rw [Nat.zero_add]
      refine ⟨?_, by simp [World.frozen?, hh]⟩
      rw [cell_of_row w g t cur _ (0, 0) hh, ← Array.getElem?_toList]
      exact hcell
    have hblk : g < w.heap.size := by
      rcases Nat.lt_or_ge g w.heap.size with h | h
      · exact h
      · rw [Array.getElem?_eq_none h] at hh; cases hh
    have T := Go.Proofs.AnyQ.slices_SortFunc_total Try.sortX 2 Try.isAgg24 Try.sizeOf24 encA (fun _ => rfl) (fun x u hu => by simp [encA, encP] at hu; rcases hu with rfl | rfl <;> rfl) ordA ordA_swo 53 #[] g 0 cap la.toArray w (fun _ _ => by go_simp)
      (fun m os dk _ x y => (orderS_grow x.1 y.1 _ x.2.1 x.2.2 y.2.1 y.2.2).mono fun e w' h => h) hH hblk (by simp; omega) (fun x y h1 h2 => ?_)
    · rw [show la.toArray.size = l.length by simp [hll]] at T
      obtain ⟨sa, hsa⟩ : ∃ sa, sa = la.mergeSort fun x y => !(ltOf ordA) y x := ⟨_, rfl⟩
      have hsm : sa.map (fun x => x.1) = sortS l := by rw [hsa, hla]; exact sortA_map la
      rw [show la.toArray.toList = la from rfl, ← hsa] at T
      refine T.mono ?_
      rintro e w' ⟨rfl, n, os, rfl⟩
      have hperm : (sortS l).length = l.length := by unfold sortS; exact List.length_mergeSort _
      have hsl : sa.length = l.length := by rw [← hperm, ← hsm, List.length_map]
      refine ⟨rfl, ?_, ?_, ?_⟩
      · have hH2 := holdsK_sortWorldK_c encA 2 w g 0 la.toArray sa.toArray n os hH hblk (by simp [hsl, hll])
        have hcur2 : ∃ cur2 : Array Value, (sortWorldK encA 2 w g 0 n sa.toArray os).heap[g]? = some (.cells cur2 24 (0, 0)) ∧ cur2.size = cur.size := by
          unfold sortWorldK putRowK
          rw [heap_grow_old _ _ (by rw [size_putRow]; exact hblk)]
          unfold putRow mapBlock
          refine ⟨putCells id 0 (flatK encA 2 sa.toArray) cur, ?_, by simp [putCells]⟩
          show ((Go.Sort.ahead w n).heap.modify g _)[g]? = _
          rw [Array.getElem?_modify]
          show (if g = g then (w.heap[g]?).map _ else _) = _
          rw [if_pos rfl, hh]; rfl
        obtain ⟨cur2, h2, h3⟩ := hcur2
        rw [show l.length = (sortS l).length from hperm.symm]
        refine own_of_cells (l := sortS l) h2 (by rw [h3]; exact hs) (by rw [hperm]; exact hn) hm hb trivial ?_
        intro j x hx i u hu
        have hj : j < sa.toArray.size := by have := (List.getElem?_eq_some_iff.1 hx).1; simp; omega
        have hi : i < 2 := (List.getElem?_eq_some_iff.1 hu).1
        have hcl := (HoldsK.cell hH2 hj hi).1
        rw [Nat.zero_add, cell_of_row _ g _ cur2 _ (0, 0) h2] at hcl
        have ex : encA sa.toArray[j]! = encP x := by
          have h1 := hx
          rw [← hsm, List.getElem?_map] at h1
          have hj2 : j < sa.length := by simpa using hj
          rw [List.getElem?_eq_getElem hj2] at h1
          have h2 : (sa[j]).1 = x := Option.some.inj h1
          rw [getElem!_pos sa.toArray j hj]
          show encP _ = _
          rw [← h2]; rfl
        rw [ex] at hcl
        rw [Array.getElem?_toList, hcl]
        have hu2 : i < (encP x).length := hi
        rw [List.getElem?_eq_getElem hu2] at hu
        rw [getElem!_pos (encP x) i hu2]
        exact hu
      · refine ⟨rfl, rfl, rfl, ?_, ?_⟩
        · unfold sortWorldK putRowK
          rw [size_grow, size_putRow]
          show w.heap.size ≤ w.heap.size + os.size
          omega
        · intro k hk
          unfold sortWorldK putRowK
          have hk2 : k < w.heap.size := by omega
          rw [heap_grow_old _ _ (by rw [size_putRow]; exact hk2)]
          unfold putRow mapBlock
          show ((Go.Sort.ahead w n).heap.modify g _)[k]? = _
          rw [Array.getElem?_modify, if_neg (by omega)]; rfl
      · intro q cs ty hty hq
        have hqg : g ≠ q := by
          intro e
          rw [e] at hh
          rw [hh] at hq
          injection hq with e1
          injection e1 with e2 e3
          exact hty e3
        unfold sortWorldK putRowK
        rw [heap_grow_old _ _ (by rw [size_putRow]; exact blk_lt hq)]
        unfold putRow mapBlock
        show ((Go.Sort.ahead w n).heap.modify g _)[q]? = _
        rw [Array.getElem?_modify, if_neg hqg]; exact hq
    · have e1 : befS x.1.f0 x.1.f1 y.1.f0 y.1.f1 = false := (ltS_iff x.1 y.1).symm.trans h1
      have e2 : befS y.1.f0 y.1.f1 x.1.f0 x.1.f1 = false := (ltS_iff y.1 x.1).symm.trans h2
      rw [befS_false] at e1 e2
      have g1 : x.1.f0 = y.1.f0 := by omega
      have g2 : x.1.f1 = y.1.f1 := by omega
      refine Subtype.ext ?_
      show x.1 = y.1
      revert g1 g2
      cases x.1; cases y.1
      intro g1 g2
      have g1 := g1; have g2 := g2
      simp only at g1 g2
      rw [g1, g2]
end Go.Proofs.Ytndcjncamdhbfaa.P
