/- LexJoins: the walk of the reference's Join. -/
import Derived.Test.YtpolmnemknehaaaLexR
set_option linter.unusedVariables false
set_option linter.unusedSimpArgs false
namespace Go.Proofs.Ytpolmnemknehaaa
open Go.RowKit

theorem piece_le (b : Bool) (t : Tok) (n : Nat) (h : t.t.length ≤ n) : (piece b t).length ≤ n + 3 := by
  unfold piece
  by_cases h1 : t.k = 2
  · rw [if_pos h1]; simp; omega
  · rw [if_neg h1]
    by_cases h2 : t.k = 1
    · rw [if_pos h2]; cases b <;> simp <;> omega
    · rw [if_neg h2]; cases b <;> simp <;> omega
theorem joinTo_len (ts : List Tok) (n : Nat) (h : ∀ T ∈ ts, T.t.length ≤ n) : ∀ k, (joinTo ts k).length ≤ k * (n + 3)
  | 0 => by simp [joinTo]
  | k + 1 => by
    have h1 := joinTo_len ts n h k
    rw [joinTo, List.length_append]
    have h2 : (pieceAt ts k).length ≤ n + 3 := by
      unfold pieceAt
      cases e : ts[k]? with
      | none => simp
      | some T => exact piece_le _ T n (h T (List.mem_of_getElem? e))
    rw [Nat.add_mul]; omega
theorem b34 : (⟨#[34]⟩ : ByteArray) = ⟨[(34 : UInt8)].toArray⟩ := rfl
theorem b32 : (⟨#[32]⟩ : ByteArray) = ⟨[(32 : UInt8)].toArray⟩ := rfl
theorem b10 : (⟨#[10]⟩ : ByteArray) = ⟨[(10 : UInt8)].toArray⟩ := rfl
structure RRel (w : World) (ts : List Tok) (kq : Nat) (wr : World) (k : Int) : Prop where
  k0 : 0 ≤ k
  kn : k ≤ ts.length
  kk : (ts.length - k.toNat) ≤ kq
  below : Below w.heap.size w wr

set_option maxHeartbeats 2000000 in
set_option maxRecDepth 100000 in
theorem refJoin_any (A : Option Addr) (cap : Nat) (ts : List Tok) (w : World) (hn : ts.length ≤ 300) (ht : ∀ T ∈ ts, T.t.length ≤ 200) (h : ArgT w A ts) :
    Calls Try.prog 11 #[.slice A ts.length cap] w fun e w' => e = .returned (.string ⟨(joinL ts).toArray⟩) ∧ Below w.heap.size w w' := by
  have H := mkHid h
  have HT0 := mkHid ht
  clear h ht
  go_enter Try.func11, Try.ntmps11
  go_wp2_with fail
  go_loopg [4, 3] ts.length (fun kq v4 v3 wr => ∃ k : Int, v4 = .int .i64 k ∧ v3 = .string ⟨(joinTo ts k.toNat).toArray⟩ ∧ Hid (RRel w ts kq wr k))
  case atStart =>
    exact ⟨0, rfl, rfl, by omega, by omega, by omega, Below.refl _ _⟩
  case round =>
    obtain ⟨k, rfl, rfl, hR⟩ := hrel
    have k0 := hR.out.k0
    have kn := hR.out.kn
    have kk := hR.out.kk
    by_cases hkn : k < ts.length
    · obtain ⟨T, hT⟩ : ∃ T, ts[k.toNat]? = some T := ⟨_, List.getElem?_eq_getElem (h := by omega)⟩
      have HA := H.out.keeps hR.out.below
      obtain ⟨g, o, rfl, hg, d0, d1, d2, d3, _⟩ := HA _ _ hT
      have q1 : decide (k < (ts.length : Int)) = true := decide_eq_true hkn
      have hw1 : IntKind.i64.wrap (k + 1) = k + 1 := IntWalk.i64_in _ (by omega)
      have hw2 : IntKind.i64.wrap ((ts.length : Int) - 1) = ts.length - 1 := IntWalk.i64_in _ (by omega)
      have hjl := joinTo_len ts 200 HT0.out k.toNat
      have hTt := HT0.out T (List.mem_of_getElem? hT)
      have hz1 : (joinTo ts k.toNat).length ≤ 60900 := by omega
      have E0 : Hid (joinTo ts (k + 1).toNat = joinTo ts k.toNat ++ piece (k.toNat + 1 == ts.length) T) := by
        unfold Hid; rw [show (k + 1).toNat = k.toNat + 1 by omega, joinTo, pieceAt, hT]
      have hTl := mkHid hT
      have HBel : Hid (RRel w ts (gk - 1) wr (k + 1)) := ⟨by omega, by omega, by omega, hR.out.below⟩
      clear hT HA d2 d3 hjl
      by_cases hk2 : T.k = 2
      · have q2 : (T.k == 2) = true := by simp [hk2]
        have HPI : Hid (piece (k.toNat + 1 == ts.length) T = T.t ++ [10]) := by unfold Hid piece; rw [if_pos hk2]
        clear hk2
        go_wp2_with fail
        go_roundg (gk - 1)
        case measure => omega
        case rel => exact ⟨k + 1, rfl, by simp only [b34, b32, b10, app_list, E0.out, HPI.out, List.append_assoc], HBel.out⟩
      · have q2 : (T.k == 2) = false := by simp [hk2]
        by_cases hlast : k + 1 < ts.length
        · have qk : decide (k < (ts.length : Int) - 1) = true := decide_eq_true (by omega)
          have hl : (k.toNat + 1 == ts.length) = false := by simp; omega
          by_cases hk1 : T.k = 1
          · have q3 : (T.k == 1) = true := by simp [hk1]
            have HPI : Hid (piece (k.toNat + 1 == ts.length) T = [34] ++ T.t ++ [34] ++ [32]) := by unfold Hid piece; rw [if_neg hk2, if_pos hk1, hl]; rfl
            clear hk2 hk1 hl
            go_wp2_with fail
            go_roundg (gk - 1)
            case measure => omega
            case rel => exact ⟨k + 1, rfl, by simp only [b34, b32, b10, app_list, E0.out, HPI.out, List.append_assoc], HBel.out⟩
          · have q3 : (T.k == 1) = false := by simp [hk1]
            have HPI : Hid (piece (k.toNat + 1 == ts.length) T = T.t ++ [32]) := by unfold Hid piece; rw [if_neg hk2, if_neg hk1, hl]; rfl
            clear hk2 hk1 hl
            go_wp2_with fail
            go_roundg (gk - 1)
            case measure => omega
            case rel => exact ⟨k + 1, rfl, by simp only [b34, b32, b10, app_list, E0.out, HPI.out, List.append_assoc], HBel.out⟩
        · have qk : decide (k < (ts.length : Int) - 1) = false := decide_eq_false (by omega)
          have hl : (k.toNat + 1 == ts.length) = true := by simp; omega
          by_cases hk1 : T.k = 1
          · have q3 : (T.k == 1) = true := by simp [hk1]
            have HPI : Hid (piece (k.toNat + 1 == ts.length) T = [34] ++ T.t ++ [34]) := by unfold Hid piece; rw [if_neg hk2, if_pos hk1, hl]; simp
            clear hk2 hk1 hl
            go_wp2_with fail
            go_roundg (gk - 1)
            case measure => omega
            case rel => exact ⟨k + 1, rfl, by simp only [b34, b32, b10, app_list, E0.out, HPI.out, List.append_assoc], HBel.out⟩
          · have q3 : (T.k == 1) = false := by simp [hk1]
            have HPI : Hid (piece (k.toNat + 1 == ts.length) T = T.t) := by unfold Hid piece; rw [if_neg hk2, if_neg hk1, hl]; simp
            clear hk2 hk1 hl
            go_wp2_with fail
            go_roundg (gk - 1)
            case measure => omega
            case rel => exact ⟨k + 1, rfl, by simp only [b34, b32, b10, app_list, E0.out, HPI.out, List.append_assoc], HBel.out⟩
    · go_wp2_with fail
      go_ret
      have e : k.toNat = ts.length := by omega
      refine ⟨?_, hR.out.below⟩
      rw [e, joinTo_all]
      rfl
end Go.Proofs.Ytpolmnemknehaaa
