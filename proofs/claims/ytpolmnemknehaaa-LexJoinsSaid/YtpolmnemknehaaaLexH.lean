/- The walk of Scan: it returns what the plain scanner tells, for every text. -/
import Derived.Test.YtpolmnemknehaaaLexG
set_option linter.unusedVariables false
set_option linter.unusedSimpArgs false
namespace Go.Proofs.Ytpolmnemknehaaa
open Go.RowKit

def tokCells (t : Tok) : List Value := [.int .i64 t.k, .string ⟨t.t.toArray⟩, .int .i64 t.l, .int .i64 t.c]
def toksCells (ts : List Tok) : List Value := ts.flatMap tokCells

/-- what Scan hands back -/
def Scanned (w w' : World) (e : Ending) (s : ByteArray) : Prop :=
  Below w.heap.size w w' ∧
  if 8192 < s.size then e = .returned (.tuple #[.slice none 0 0, .agg #[.int .i64 1, .int .i64 1], .int .i64 2])
  else match scan (s.size + 1) true (1, 1) s.data.toList with
    | .ok ts => ∃ v, e = .returned (.tuple #[v, .agg #[.int .i64 0, .int .i64 0], .int .i64 0]) ∧ w'.ownsRow w.heap.size 31 4 v ts.length (toksCells ts)
    | .error E => ∃ l c : Int, e = .returned (.tuple #[.slice none 0 0, .agg #[.int .i64 l, .int .i64 c], .int .i64 E])

theorem two_set {w : World} {B : Nat} {x y : Value} {t : TypeId} (h : w.heap[B]? = some (.cells #[x, y] t (0, 0))) (u v : Value) :
    (w.setCell ⟨B, 0, none⟩ u).cell? ⟨B, 0, none⟩ = some u ∧ ((w.setCell ⟨B, 0, none⟩ u).setCell ⟨B, 1, none⟩ v).cell? ⟨B, 1, none⟩ = some v := by
  refine ⟨?_, ?_⟩ <;> simp [World.cell?, World.setCell, Array.getElem?_modify, h]

set_option maxHeartbeats 2000000 in
set_option maxRecDepth 100000 in
theorem scan_long (s : ByteArray) (w : World) (hs : s.size ≤ 140737488351232) (h : 8192 < s.size) :
    Calls Try.prog 8 #[.string s] w fun e w' => Scanned w w' e s := by
  have h1 : decide ((8192 : Int) < (s.size : Int)) = true := decide_eq_true (by omega)
  have hq := mkHid h
  clear h
  go_enter Try.func8, Try.ntmps8
  go_wp2_with fail
  go_region
  all_goals
    go_wp2
    refine bodyPost_ret (v := .tuple #[.slice none 0 0, .agg #[.int .i64 1, .int .i64 1], .int .i64 2]) (by simp [results, Try.results8, go_sem]) rfl ⟨?_, ?_⟩
    · exact (((Below.refl _ _).alloc (Nat.le_refl _) _).alloc (by simp) _).drew
    · rw [if_pos hq.out]


theorem ownsRow_base {w : World} {base base' : Nat} {e : TypeId} {size : Nat} {v : Value} {n : Nat} {xs : List Value} (h : w.ownsRow base e size v n xs) (hb : base' ≤ base) : w.ownsRow base' e size v n xs := by
  refine ⟨h.1, ?_⟩
  rcases h.2 with h1 | ⟨g, cap, cur, rfl, h1, rest⟩
  · exact .inl h1
  · exact .inr ⟨g, cap, cur, rfl, by omega, rest⟩

/-- the loop's relation -/
structure Rel (w : World) (s : ByteArray) (kq : Nat) (wr : World) (a l c : Int) (ts : List Tok) (f : Bool) : Prop where
  at_ : At (w.heap.size + 1) wr (w.heap.size + 1) s a l c ts.length (toksCells ts) f
  a0 : 0 ≤ a
  a1 : a ≤ s.size
  l0 : 0 ≤ l
  l1 : l ≤ 1 + a
  c0 : 0 ≤ c
  c1 : c ≤ 1 + a
  len : (ts.length : Int) ≤ a
  pos : wr.heap[w.heap.size]? = some (.cells #[.int .i64 0, .int .i64 0] 25 (0, 0))
  below : Below w.heap.size w wr
  fuel : (s.data.toList.drop a.toNat).length < kq
  told : scan (s.size + 1) true (1, 1) s.data.toList = (scan kq f (l, c) (s.data.toList.drop a.toNat)).map (ts ++ ·)

theorem drop_cons' (s : ByteArray) (i : Nat) (h : i < s.size) : ∃ b, s.data.toList.drop i = b :: s.data.toList.drop (i + 1) := ⟨_, drop_cons s i h⟩

/-- one round -/
theorem rel_next {w : World} {s : ByteArray} {kq : Nat} {wr w' : World} {a l c : Int} {ts : List Tok} {f : Bool} {E : Int} (h : Rel w s kq wr a l c ts f) (ha : a < s.size)
    (hst : Stepped (w.heap.size + 1) wr w' (w.heap.size + 1) s a l c ts.length (toksCells ts) E (step f (s.data.toList.drop a.toNat))) :
    (E = 0 ∧ 1 ≤ kq ∧ ∃ a' l' c' ts' f', Rel w s (kq - 1) w' a' l' c' ts' f') ∨
    (E ≠ 0 ∧ scan (s.size + 1) true (1, 1) s.data.toList = .error E ∧ w'.heap[w.heap.size]? = some (.cells #[.int .i64 0, .int .i64 0] 25 (0, 0)) ∧ Below w.heap.size w w' ∧ ∃ s a l c v f, Sc w' (w.heap.size + 1) s a l c v f) := by
  have hsz : w.heap.size + 1 ≤ wr.heap.size := by
    have := (Array.getElem?_eq_some_iff.1 h.pos).1; omega
  have hposr : ∀ {u : World}, Below (w.heap.size + 1) wr u → u.heap[w.heap.size]? = some (.cells #[.int .i64 0, .int .i64 0] 25 (0, 0)) ∧ Below w.heap.size w u := fun hb =>
    ⟨(hb.block _ (by omega)).trans h.pos, h.below.trans (hb.mono (by omega))⟩
  obtain ⟨b, hd⟩ := drop_cons' s a.toNat (by have := h.a0; omega)
  have hlen : (s.data.toList.drop (a.toNat + 1)).length = s.size - (a.toNat + 1) := by simp
  have hf := h.fuel
  have a0 := h.a0
  have hsc := h.told
  obtain ⟨k, rfl⟩ : ∃ k, kq = k + 1 := ⟨kq - 1, by omega⟩
  rw [hd] at hst hsc hf
  rw [scan] at hsc
  cases hs : step f (b :: s.data.toList.drop (a.toNat + 1)) with
  | bad e =>
    rw [hs] at hst hsc
    obtain ⟨rfl, s', a', l', c', v', f', hS, hB⟩ := hst
    obtain ⟨p1, p2⟩ := hposr hB
    exact .inr ⟨step_bad hs, hsc, p1, p2, s', a', l', c', v', f', hS⟩
  | skip n =>
    have hn := step_skip hs
    rw [hs] at hst hsc
    obtain ⟨rfl, hA, hB⟩ := hst
    obtain ⟨p1, p2⟩ := hposr hB
    have hbd := advs_bound ((s.data.toList.drop a.toNat).take n) (l, c) h.l0 h.c0
    have hln : ((s.data.toList.drop a.toNat).take n).length ≤ n := List.length_take_le _ _
    simp only at hbd
    have hl1 := h.l1
    have hc1 := h.c1
    have hle := h.len
    refine .inl ⟨rfl, by omega, a + n, _, _, ts, true, ⟨hA, by omega, by omega, hbd.1, by omega, hbd.2.1, by omega, by omega, p1, p2, ?_, ?_⟩⟩
    · simp at hf ⊢; omega
    · have hdn : (s.data.toList.drop a.toNat).drop n = s.data.toList.drop (a + (n : Int)).toNat := by rw [List.drop_drop]; congr 1; omega
      simp only [] at hsc
      rw [← hd, hdn] at hsc
      rw [hsc]; rfl
  | tok kd off len n fr =>
    have hn := step_tok hs
    rw [hs] at hst hsc
    obtain ⟨rfl, hA, hB⟩ := hst
    obtain ⟨p1, p2⟩ := hposr hB
    have hbd := advs_bound ((s.data.toList.drop a.toNat).take n) (l, c) h.l0 h.c0
    have hln : ((s.data.toList.drop a.toNat).take n).length ≤ n := List.length_take_le _ _
    simp only at hbd
    have hl1 := h.l1
    have hc1 := h.c1
    have hle := h.len
    refine .inl ⟨rfl, by omega, a + n, _, _, ts ++ [⟨kd, ((s.data.toList.drop a.toNat).drop off).take len, l, c⟩], fr, ⟨?_, by omega, by omega, hbd.1, by omega, hbd.2.1, by omega, by simp; omega, p1, p2, ?_, ?_⟩⟩
    · have e : toksCells (ts ++ [⟨kd, ((s.data.toList.drop a.toNat).drop off).take len, l, c⟩]) = toksCells ts ++ [.int .i64 kd, .string ⟨(((s.data.toList.drop a.toNat).drop off).take len).toArray⟩, .int .i64 l, .int .i64 c] := by
        simp [toksCells, tokCells]
      rw [e, List.length_append]; exact hA
    · simp at hf ⊢; omega
    · have hdn : (s.data.toList.drop a.toNat).drop n = s.data.toList.drop (a + (n : Int)).toNat := by rw [List.drop_drop]; congr 1; omega
      simp only [] at hsc
      rw [← hd, hdn] at hsc
      rw [hsc, show k + 1 - 1 = k from rfl]
      cases scan k fr (advs (l, c) (List.take n (List.drop a.toNat s.data.toList))) (List.drop (a + (n : Int)).toNat s.data.toList) with
      | error e => rfl
      | ok us => simp [Except.map]

set_option maxHeartbeats 2000000 in
set_option maxRecDepth 100000 in
theorem scan_short (s : ByteArray) (w : World) (h : s.size ≤ 8192) :
    Calls Try.prog 8 #[.string s] w fun e w' => Scanned w w' e s := by
  have h1 : decide ((8192 : Int) < (s.size : Int)) = false := decide_eq_false (by omega)
  go_enter Try.func8, Try.ntmps8
  go_wp2_with fail
  obtain ⟨W, hW⟩ : ∃ W, W = (w.alloc (Obj.cells #[Value.int IntKind.i64 0, Value.int IntKind.i64 0] 25)).alloc
    (Obj.cells #[Value.string s, Value.int IntKind.i64 0, Value.int IntKind.i64 1, Value.int IntKind.i64 1, Value.slice none 0 0, Value.bool true] 46) := ⟨_, rfl⟩
  rw [← hW]
  have HW := mkHid hW
  clear hW
  go_loopg [] (s.size + 1) (fun kq wr => ∃ a l c ts f, Rel w s kq wr a l c ts f)
  case atStart =>
    refine ⟨0, 1, 1, [], true, ⟨.slice none 0 0, ?_, World.ownsRow_nil _ _ _ _, by simp [Value.ownBlock], Nat.le_refl _⟩, by omega, by omega, by omega, by omega, by omega, by omega, by simp, ?_, ?_, ?_, ?_⟩
    · rw [HW.out]; unfold Sc; simpa using heap_alloc_new (w.alloc (Obj.cells #[Value.int IntKind.i64 0, Value.int IntKind.i64 0] 25)) (Obj.cells #[Value.string s, Value.int IntKind.i64 0, Value.int IntKind.i64 1, Value.int IntKind.i64 1, Value.slice none 0 0, Value.bool true] 46)
    · rw [HW.out, heap_alloc_old _ _ (by simp)]; exact heap_alloc_new w _
    · rw [HW.out]; exact ((Below.refl _ _).alloc (Nat.le_refl _) _).alloc (by simp) _
    · simp
    · simp only [Int.toNat_zero, List.drop_zero]
      cases scan (s.size + 1) true (1, 1) s.data.toList <;> rfl
  case round =>
    obtain ⟨a, l, c, ts, f, hR⟩ := hrel
    obtain ⟨v, hS, hown, hvg, hBg⟩ := hR.at_
    have HR := mkHid hR
    have HS := mkHid hS
    have HO := mkHid hown
    obtain ⟨c0, c1, c2, c3, c4, c5, cf⟩ := hS.cells
    have a0 := hR.a0
    have a1 := hR.a1
    clear hR hS hown hvg hBg c2 c3 c5 cf
    by_cases ha : a < s.size
    · have ha' : decide (a < (s.size : Int)) = true := decide_eq_true ha
      go_wp2_with fail
      refine (one_any (w.heap.size + 1) (w.heap.size + 1) s a l c ts.length (toksCells ts) f wr (by omega) HR.out.at_ a0 ha (by have := HR.out.len; omega) HR.out.l0 HR.out.c0 (by have := HR.out.l1; omega) (by have := HR.out.c1; omega)).mono ?_
      rintro e w' ⟨E, rfl, hst⟩
      rcases rel_next HR.out ha hst with ⟨hE, hk, hN⟩ | ⟨hE, hsc, hpos, hbel, s', a', l', c', v', f', hS'⟩
      · have HN := mkHid hN
        have hE' : (E != 0) = false := by simp [hE]
        have HK := mkHid hk
        clear hst hN hE hk
        go_wp2_with fail
        go_roundg (gk - 1)
        case measure => have := HK.out; omega
        case rel => exact HN.out
      · have hE' : (E != 0) = true := by simp [hE]
        have HSC := mkHid hsc
        have HB := mkHid hbel
        have HP := mkHid hpos
        obtain ⟨d0, d1, d2, d3, d4, d5, df⟩ := hS'.cells
        have p0 : w'.cell? ⟨w.heap.size, 0, none⟩ = some (.int .i64 0) := by simp [World.cell?, hpos]
        have p1 : w'.cell? ⟨w.heap.size, 1, none⟩ = some (.int .i64 0) := by simp [World.cell?, hpos]
        have pf0 : w'.frozen? ⟨w.heap.size, 0, none⟩ = false := by simp [World.frozen?, hpos]
        have pf1 : w'.frozen? ⟨w.heap.size, 1, none⟩ = false := by simp [World.frozen?, hpos]
        clear hst hsc hbel hpos hS' hE d0 d1 d4 d5 df c0 c1 c4
        go_wp2_with fail
        go_region
        all_goals
          go_wp2
          obtain ⟨r0, r1⟩ := two_set HP.out (.int .i64 l') (.int .i64 c')
          refine bodyPost_ret (v := .tuple #[.slice none 0 0, .agg #[.int .i64 l', .int .i64 c'], .int .i64 E]) (by simp [results, Try.results8, go_sem, r0, r1]) rfl ⟨?_, ?_⟩
          · exact ((HB.out.setCell (Nat.le_refl _) _).setCell (Nat.le_refl _) _).drew
          · rw [if_neg (by omega), HSC.out]; exact ⟨_, _, rfl⟩
    · have ha' : decide (a < (s.size : Int)) = false := decide_eq_false ha
      have p0 : wr.cell? ⟨w.heap.size, 0, none⟩ = some (.int .i64 0) := by simp [World.cell?, HR.out.pos]
      have p1 : wr.cell? ⟨w.heap.size, 1, none⟩ = some (.int .i64 0) := by simp [World.cell?, HR.out.pos]
      have pf0 : wr.frozen? ⟨w.heap.size, 0, none⟩ = false := by simp [World.frozen?, HR.out.pos]
      have pf1 : wr.frozen? ⟨w.heap.size, 1, none⟩ = false := by simp [World.frozen?, HR.out.pos]
      go_wp2_with fail
      obtain ⟨r0, r1⟩ := two_set HR.out.pos (.int .i64 0) (.int .i64 0)
      refine bodyPost_ret (v := .tuple #[v, .agg #[.int .i64 0, .int .i64 0], .int .i64 0]) (by simp [results, Try.results8, go_sem, r0, r1]) rfl ⟨?_, ?_⟩
      · exact ((HR.out.below.setCell (Nat.le_refl _) _).setCell (Nat.le_refl _) _)
      · have hf := HR.out.fuel
        obtain ⟨k, rfl⟩ : ∃ k, gk = k + 1 := ⟨gk - 1, by omega⟩
        rw [if_neg (by omega), HR.out.told, List.drop_of_length_le (by simp; omega)]
        refine ⟨v, rfl, ?_⟩
        show World.ownsRow _ _ _ _ _ (ts ++ []).length (toksCells (ts ++ []))
        rw [List.append_nil]
        exact ownsRow_setCell_other (ownsRow_setCell_other (ownsRow_base HO.out (by omega)) (fun h => by have := (HO.out.lt _ h).1; dsimp only at this; omega) _) (fun h => by have := (HO.out.lt _ h).1; dsimp only at this; omega) _

theorem scan_any (s : ByteArray) (w : World) (hs : s.size ≤ 140737488351232) : Calls Try.prog 8 #[.string s] w fun e w' => Scanned w w' e s := by
  by_cases h : 8192 < s.size
  · exact scan_long s w hs h
  · exact scan_short s w (by omega)
end Go.Proofs.Ytpolmnemknehaaa
