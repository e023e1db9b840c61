/- slices.Contains over comm's communities: whether one is there. -/
import Derived.Test.YtikjfonedddlpaaDeleteC
import Derived.Test.YtikjfonedddlpaaPx0
import Derived.Test.YtikjfonedddlpaaPx25
namespace Go.Proofs.Ytikjfonedddlpaa.P
open Go.RowKit Go.Proofs.YtikjfonedddlpaaW.PrintWords Go.Proofs.YtikjfonedddlpaaW.PrintLast Go.Proofs.YtikjfonedddlpaaW.PrintMore
set_option linter.unusedVariables false
set_option linter.unusedSimpArgs false

def inC (l : List S23) (x : S23) : Bool := l.any fun y => eqC y x
theorem inC_iff (l : List S23) (x : S23) : inC l x = true ↔ x ∈ l := by
  unfold inC
  rw [List.any_eq_true]
  constructor
  · rintro ⟨y, hy, e⟩
    rw [← (eqC_iff y x).1 e]; exact hy
  · exact fun h => ⟨x, h, (eqC_iff x x).2 rfl⟩
theorem con_is_ev : ∀ (d : Nat) (l : List S23) (x : S23) (i : Nat) (k : Nat), l.length ≤ 9223372036854775807 → l.length - i = d → i ≤ l.length → d < k →
    ∃ r : Int, api_Comm_66.l0 k l (l.length : Int) (i : Int) x.f0 x.f1 = some r ∧ decide (r ≥ 0) = inC (l.drop i) x := by
  intro d
  induction d with
  | zero =>
    intro l x i k hl hd hi hk
    obtain ⟨k, rfl⟩ : ∃ m, k = m + 1 := ⟨k - 1, by omega⟩
    simp only [api_Comm_66.l0]
    rw [if_neg (by omega), List.drop_eq_nil_of_le (by omega)]
    exact ⟨-1, rfl, rfl⟩
  | succ d ih =>
    intro l x i k hl hd hi hk
    obtain ⟨k, rfl⟩ : ∃ m, k = m + 1 := ⟨k - 1, by omega⟩
    simp only [api_Comm_66.l0]
    have hil : i < l.length := by omega
    have hx : l[i]? = some l[i] := List.getElem?_eq_getElem hil
    have hdr : l.drop i = l[i] :: l.drop (i + 1) := List.drop_eq_getElem_cons hil
    have hrd : rd_T23 l (i : Int) = l[i] := by
      unfold rd_T23
      rw [Int.toNat_natCast, List.getD_eq_getElem?_getD, hx]; rfl
    rw [if_pos (by omega), if_pos (by omega), if_pos (by omega), hrd, hdr]
    generalize l[i] = y
    show ∃ r : Int, _ ∧ decide (r ≥ 0) = (eqC y x || inC (l.drop (i + 1)) x)
    have hsym : (x.f0 == y.f0 && (x.f1 == y.f1)) = eqC y x := by
      unfold eqC
      rw [BEq.comm (a := x.f0), BEq.comm (a := x.f1)]
    rw [hsym]
    by_cases e : eqC y x = true
    · rw [if_pos e, e]
      exact ⟨(i : Int), rfl, by rw [Bool.true_or]; exact decide_eq_true (by omega)⟩
    · rw [if_neg e, Bool.eq_false_iff.mpr e, Bool.false_or, show wrap64 ((i : Int) + 1) = ((i + 1 : Nat) : Int) from by unfold wrap64; omega]
      exact ih l x (i + 1) k hl (by omega) (by omega) (by omega)
theorem con_is (l : List S23) (x : S23) (hl : l.length ≤ 9223372036854775807) : api_Comm_55.f (l.length + 1) l x.f0 x.f1 = some (inC l x) := by
  unfold api_Comm_55.f api_Comm_66.f
  obtain ⟨r, h1, h2⟩ := con_is_ev l.length l x 0 (l.length + 1) hl (by omega) (by omega) (by omega)
  have h1' : api_Comm_66.l0 (l.length + 1) l (l.length : Int) 0 x.f0 x.f1 = some r := h1
  rw [h1', Option.bind_some, h2]; rfl
end Go.Proofs.Ytikjfonedddlpaa.P
