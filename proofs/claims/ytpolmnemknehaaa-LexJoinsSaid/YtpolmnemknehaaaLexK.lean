/- The walk of Join: it returns the plain text of the tokens, where that is of at most 2^40 bytes. -/
import Derived.Test.YtpolmnemknehaaaLexI
import Derived.Test.YtpolmnemknehaaaBld
import Derived.Test.YtpolmnemknehaaaShelf
import Derived.WalkMore
set_option linter.unusedVariables false
set_option linter.unusedSimpArgs false
namespace Go.Proofs.Ytpolmnemknehaaa
open Go.RowKit

theorem builder_new (w : World) : Lib.IsBuilder 51 5 w.heap.size w.heap.size (Lib.byteCells []) (w.alloc (Obj.cells #[Value.pointer none, Value.slice none 0 0] 51)) :=
  .inl ⟨Nat.le_refl _, .slice none 0 0, heap_alloc_new w _, World.ownsRow_nil _ _ _ _, by simp [Value.ownBlock]⟩
theorem strCells_list (l : List UInt8) : Lib.strCells ⟨l.toArray⟩ = Lib.byteCells l := by simp [Lib.strCells, Lib.byteCells]
theorem byteCells_app (l m : List UInt8) : Lib.byteCells l ++ Lib.byteCells m = Lib.byteCells (l ++ m) := by simp [Lib.byteCells]

theorem piece_ge (b : Bool) (t : Tok) : t.t.length ≤ (piece b t).length := by
  unfold piece
  by_cases h1 : t.k = 2
  · rw [if_pos h1]; simp
  · rw [if_neg h1]
    by_cases h2 : t.k = 1
    · rw [if_pos h2]; simp; omega
    · rw [if_neg h2]; simp
theorem app_list (l m : List UInt8) : (⟨l.toArray⟩ : ByteArray) ++ ⟨m.toArray⟩ = ⟨(l ++ m).toArray⟩ := by
  apply ByteArray.ext; simp [ByteArray.data_append]
theorem size_list (l : List UInt8) : (⟨l.toArray⟩ : ByteArray).size = l.length := by simp [ByteArray.size]
theorem byteCells_len (l : List UInt8) : (Lib.byteCells l).length = l.length := by simp [Lib.byteCells]
/-- the loop's relation -/
structure JRel (w : World) (ts : List Tok) (n kq : Nat) (wr : World) (k : Int) : Prop where
  k0 : 0 ≤ k
  kn : k + kq = n
  bld : Lib.IsBuilder 51 5 w.heap.size w.heap.size (Lib.byteCells (joinTo ts k.toNat)) wr
  below : Below w.heap.size w wr

theorem JRel.next {w : World} {ts : List Tok} {n kq : Nat} {wr w' : World} {k : Int} (h : JRel w ts n kq wr k) (hk : k < n) {T : Tok} (hT : ts[k.toNat]? = some T) {l : List UInt8}
    (hl : l = piece (k.toNat + 1 == ts.length) T) (hb : Lib.BuilderAt 51 5 w.heap.size w.heap.size (.pointer (some ⟨w.heap.size, 0, none⟩)) (Lib.byteCells (joinTo ts k.toNat ++ l)) w') (hB : Below w.heap.size wr w') : JRel w ts n (kq - 1) w' (k + 1) := by
  have := h.kn
  have k0 := h.k0
  refine ⟨by omega, by omega, ?_, h.below.trans hB⟩
  rw [show (k + 1).toNat = k.toNat + 1 from by omega, joinTo, pieceAt, hT]
  simp only
  rw [← hl]
  exact .inr hb

theorem isB_alloc {T e : TypeId} {B b : Nat} {bs : List Value} {w : World} (h : Lib.IsBuilder T e B b bs w) (X : Obj) : Lib.IsBuilder T e B b bs (w.alloc X) := by
  have key : ∀ p, Lib.BuilderAt T e B b p bs w → Lib.BuilderAt T e B b p bs (w.alloc X) := by
    rintro p ⟨h1, v, h2, h3, h4⟩
    exact ⟨h1, v, (heap_alloc_old w X (Array.getElem?_eq_some_iff.1 h2).1).trans h2, h3.alloc X, h4⟩
  rcases h with h | h
  · exact .inl (key _ h)
  · exact .inr (key _ h)

set_option maxHeartbeats 4000000 in
set_option maxRecDepth 100000 in
theorem join_any (A : Option Addr) (n cap : Nat) (ts : List Tok) (w : World) (hn : n = ts.length) (hn2 : n ≤ 1000000) (hcap : n ≤ cap) (hlen : (joinL ts).length ≤ 1099511627776)
    (hc : 0 < n → ∃ g, A = some ⟨g, 0, none⟩ ∧ g < w.heap.size ∧ ∀ j u, (toksCells ts)[j]? = some u → w.cell? ⟨g, j, none⟩ = some u) :
    Calls Try.prog 9 #[.slice A n cap] w fun e w' => e = .returned (.string ⟨(joinL ts).toArray⟩) ∧ Below w.heap.size w w' := by
  have HC := mkHid hc
  have HN := mkHid hn
  clear hc hn
  go_enter Try.func9, Try.ntmps9
  go_wp2_with fail
  go_step3
  go_wp2_with fail
  go_step3
  go_wp2_with fail
  obtain ⟨W, hW⟩ : ∃ W, W = w.alloc (Obj.cells #[Value.pointer none, Value.slice none 0 0] 51) := ⟨_, rfl⟩
  rw [← hW]
  have HW := mkHid hW
  clear hW
  go_loopg [8] n (fun kq v8 wr => ∃ k : Int, v8 = .int .i64 k ∧ Hid (JRel w ts n kq wr k))
  case atStart =>
    refine ⟨0, rfl, by omega, by omega, ?_, ?_⟩
    · rw [HW.out]; exact builder_new w
    · rw [HW.out]; exact (Below.refl _ _).alloc (Nat.le_refl _) _
  case round =>
    obtain ⟨k, rfl, hR⟩ := hrel
    have k0 := hR.out.k0
    have kn := hR.out.kn
    by_cases hkn : k < n
    · obtain ⟨g, rfl, hg, hcell⟩ := HC.out (by omega)
      obtain ⟨T, hT⟩ : ∃ T, ts[k.toNat]? = some T := ⟨_, List.getElem?_eq_getElem (h := by have := HN.out; omega)⟩
      obtain ⟨t0, t1, t2, t3⟩ := toks_get _ _ _ hT
      have hbw := hR.out.below.size
      have hblk : ∀ o, wr.cell? ⟨g, o, none⟩ = w.cell? ⟨g, o, none⟩ := fun o => hR.out.below.cell hg
      have d0 := (hblk _).trans (hcell _ _ t0)
      have d1 := (hblk _).trans (hcell _ _ t1)
      have d2 := (hblk _).trans (hcell _ _ t2)
      have d3 := (hblk _).trans (hcell _ _ t3)
      have hgr : g < wr.heap.size := by omega
      have hpl := joinTo_le ts (k.toNat + 1) (by have := HN.out; omega)
      rw [joinTo, pieceAt, hT] at hpl
      simp only [List.length_append] at hpl
      have htl := piece_ge (k.toNat + 1 == ts.length) T
      have htl : T.t.length ≤ 1099511627776 := by omega
      have HT := mkHid hT
      have HPL := mkHid hpl
      clear hblk hcell t0 t1 t2 t3 hT hpl
      have hbW := hbw
      have hal : ∀ X, Lib.IsBuilder 51 5 w.heap.size w.heap.size (Lib.byteCells (joinTo ts k.toNat)) (wr.alloc X) := fun X => isB_alloc hR.out.bld X
      have HAL := mkHid hal
      clear hal
      have e1 : (⟨T.t.toArray⟩ : ByteArray) ++ ⟨#[10]⟩ = ⟨(T.t ++ [10]).toArray⟩ := app_list T.t [10]
      have e2 : (⟨#[34]⟩ : ByteArray) ++ ⟨T.t.toArray⟩ ++ ⟨#[34]⟩ = ⟨([34] ++ T.t ++ [34]).toArray⟩ := by rw [show (⟨#[34]⟩ : ByteArray) = ⟨[34].toArray⟩ from rfl, app_list, app_list]
      have E1 := mkHid e1
      have E2 := mkHid e2
      clear e1 e2
      by_cases hk2 : T.k = 2
      · have q2 : (T.k == 2) = true := by simp [hk2]
        have HPI : Hid (piece (k.toNat + 1 == ts.length) T = T.t ++ [10]) := by unfold Hid piece; rw [if_pos hk2]
        clear hk2
        go_wp2_with fail
        rw [E1.out]
        refine (writeString_any w.heap.size w.heap.size _ _ _ (HAL.out _) (by rw [size_list, byteCells_len]; have h1 := HPL.out; rw [HPI.out] at h1; omega) (by simp; omega)).mono ?_
        rintro e w' ⟨rfl, hb, hB⟩
        rw [strCells_list, byteCells_app] at hb
        have HJ := mkHid (hR.out.next hkn HT.out HPI.out.symm hb (((Below.refl _ _).alloc (by omega) _).trans hB))
        clear hb hB
        go_wp2_with fail
        go_roundg (gk - 1)
        case measure => omega
        case rel => exact ⟨k + 1, rfl, HJ.out⟩
      · by_cases hlast : k + 1 < n
        · have qk : decide (k + 1 < (n : Int)) = true := decide_eq_true hlast
          have hl : (k.toNat + 1 == ts.length) = false := by have := HN.out; simp; omega
          by_cases hk1 : T.k = 1
          · have q1 : (T.k == 2) = false := by simp [hk2]
            have q2 : (T.k == 1) = true := by simp [hk1]
            have HPI : Hid (piece (k.toNat + 1 == ts.length) T = [34] ++ T.t ++ [34] ++ [32]) := by unfold Hid piece; rw [if_neg hk2, if_pos hk1, hl]; rfl
            clear hk2 hk1 hl
            go_wp2_with fail
            rw [E2.out]
            refine (writeString_any w.heap.size w.heap.size _ _ _ (HAL.out _) (by rw [size_list, byteCells_len]; have h1 := HPL.out; rw [HPI.out] at h1; simp at h1 ⊢; omega) (by simp; omega)).mono ?_
            rintro e w' ⟨rfl, hb, hB⟩
            rw [strCells_list, byteCells_app] at hb
            have HB1 := mkHid hb
            have HB2 := mkHid (((Below.refl w.heap.size wr).alloc (by omega) _).trans hB)
            have hsz := hB.size
            clear hb hB
            go_wp2_with fail
            refine (writeString_any w.heap.size w.heap.size _ _ _ (.inr HB1.out) (by rw [byteCells_len]; have h1 := HPL.out; rw [HPI.out] at h1; simp [ByteArray.size] at h1 ⊢; omega) (by simp at hsz; omega)).mono ?_
            rintro e w'' ⟨rfl, hb, hB⟩
            rw [show Lib.strCells ⟨#[32]⟩ = Lib.byteCells [32] from rfl, byteCells_app, List.append_assoc] at hb
            have HJ := mkHid (hR.out.next hkn HT.out HPI.out.symm hb (HB2.out.trans hB))
            clear hb hB
            go_wp2_with fail
            go_roundg (gk - 1)
            case measure => omega
            case rel => exact ⟨k + 1, rfl, HJ.out⟩
          · have q1 : (T.k == 2) = false := by simp [hk2]
            have q2 : (T.k == 1) = false := by simp [hk1]
            have HPI : Hid (piece (k.toNat + 1 == ts.length) T = T.t ++ [32]) := by unfold Hid piece; rw [if_neg hk2, if_neg hk1, hl]; rfl
            clear hk2 hk1 hl
            go_wp2_with fail
            refine (writeString_any w.heap.size w.heap.size _ _ _ (HAL.out _) (by rw [size_list, byteCells_len]; have h1 := HPL.out; rw [HPI.out] at h1; simp at h1 ⊢; omega) (by simp; omega)).mono ?_
            rintro e w' ⟨rfl, hb, hB⟩
            rw [strCells_list, byteCells_app] at hb
            have HB1 := mkHid hb
            have HB2 := mkHid (((Below.refl w.heap.size wr).alloc (by omega) _).trans hB)
            have hsz := hB.size
            clear hb hB
            go_wp2_with fail
            refine (writeString_any w.heap.size w.heap.size _ _ _ (.inr HB1.out) (by rw [byteCells_len]; have h1 := HPL.out; rw [HPI.out] at h1; simp [ByteArray.size] at h1 ⊢; omega) (by simp at hsz; omega)).mono ?_
            rintro e w'' ⟨rfl, hb, hB⟩
            rw [show Lib.strCells ⟨#[32]⟩ = Lib.byteCells [32] from rfl, byteCells_app, List.append_assoc] at hb
            have HJ := mkHid (hR.out.next hkn HT.out HPI.out.symm hb (HB2.out.trans hB))
            clear hb hB
            go_wp2_with fail
            go_roundg (gk - 1)
            case measure => omega
            case rel => exact ⟨k + 1, rfl, HJ.out⟩
        · have qk : decide (k + 1 < (n : Int)) = false := decide_eq_false hlast
          have hl : (k.toNat + 1 == ts.length) = true := by have := HN.out; simp; omega
          by_cases hk1 : T.k = 1
          · have q1 : (T.k == 2) = false := by simp [hk2]
            have q2 : (T.k == 1) = true := by simp [hk1]
            have HPI : Hid (piece (k.toNat + 1 == ts.length) T = [34] ++ T.t ++ [34]) := by unfold Hid piece; rw [if_neg hk2, if_pos hk1, hl]; simp
            clear hk2 hk1 hl
            go_wp2_with fail
            rw [E2.out]
            refine (writeString_any w.heap.size w.heap.size _ _ _ (HAL.out _) (by rw [size_list, byteCells_len]; have h1 := HPL.out; rw [HPI.out] at h1; omega) (by simp; omega)).mono ?_
            rintro e w' ⟨rfl, hb, hB⟩
            rw [strCells_list, byteCells_app] at hb
            have HJ := mkHid (hR.out.next hkn HT.out HPI.out.symm hb (((Below.refl _ _).alloc (by omega) _).trans hB))
            clear hb hB
            go_wp2_with fail
            go_roundg (gk - 1)
            case measure => omega
            case rel => exact ⟨k + 1, rfl, HJ.out⟩
          · have q1 : (T.k == 2) = false := by simp [hk2]
            have q2 : (T.k == 1) = false := by simp [hk1]
            have HPI : Hid (piece (k.toNat + 1 == ts.length) T = T.t) := by unfold Hid piece; rw [if_neg hk2, if_neg hk1, hl]; simp
            clear hk2 hk1 hl
            go_wp2_with fail
            refine (writeString_any w.heap.size w.heap.size _ _ _ (HAL.out _) (by rw [size_list, byteCells_len]; have h1 := HPL.out; rw [HPI.out] at h1; omega) (by simp; omega)).mono ?_
            rintro e w' ⟨rfl, hb, hB⟩
            rw [strCells_list, byteCells_app] at hb
            have HJ := mkHid (hR.out.next hkn HT.out HPI.out.symm hb (((Below.refl _ _).alloc (by omega) _).trans hB))
            clear hb hB
            go_wp2_with fail
            go_roundg (gk - 1)
            case measure => omega
            case rel => exact ⟨k + 1, rfl, HJ.out⟩
    · go_wp2_with fail
      refine (Try.Builder_String_any w.heap.size w.heap.size _ _ hR.out.bld hR.out.below.size).mono ?_
      rintro e w' ⟨rfl, hB⟩
      have HB := mkHid hB
      clear hB
      go_wp2_with fail
      rw [Exit.noGoto_ret]
      go_ret
      refine ⟨?_, hR.out.below.trans HB.out⟩
      rw [show k.toNat = ts.length from by have := HN.out; omega, joinTo_all]
      rfl
end Go.Proofs.Ytpolmnemknehaaa
