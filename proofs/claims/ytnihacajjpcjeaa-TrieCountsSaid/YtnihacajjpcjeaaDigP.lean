/- The digits of a number, plainly. -/
import Derived.Test.YtnihacajjpcjeaaHid
import Derived.Laws.BytesString
import Derived.Laws.IdiomStrings
set_option linter.unusedVariables false
namespace Go.Proofs.Ytnihacajjpcjeaa
open Go.RowKit

/-- the digits of a number -/
def digF : Nat → Nat → List UInt8
  | 0, _ => []
  | f + 1, n => if n < 10 then [48 + UInt8.ofNat n] else digF f (n / 10) ++ [48 + UInt8.ofNat (n % 10)]
def dig (n : Nat) : List UInt8 := digF (n + 1) n
theorem digF_any : ∀ (n f g : Nat), n < f → n < g → digF f n = digF g n := by
  intro n
  induction n using Nat.strongRecOn with
  | _ n ih =>
    intro f g hf hg
    obtain ⟨f, rfl⟩ : ∃ m, f = m + 1 := ⟨f - 1, by omega⟩
    obtain ⟨g, rfl⟩ : ∃ m, g = m + 1 := ⟨g - 1, by omega⟩
    unfold digF
    by_cases h : n < 10
    · rw [if_pos h, if_pos h]
    · rw [if_neg h, if_neg h, ih (n / 10) (by omega) f g (by omega) (by omega)]
theorem dig_small (n : Nat) (h : n < 10) : dig n = [48 + UInt8.ofNat n] := by unfold dig digF; rw [if_pos h]
theorem dig_big (n : Nat) (h : ¬ n < 10) : dig n = dig (n / 10) ++ [48 + UInt8.ofNat (n % 10)] := by
  unfold dig
  rw [digF, if_neg h, digF_any (n / 10) n (n / 10 + 1) (by omega) (by omega)]

theorem dig_len : ∀ n, (dig n).length ≤ n + 1 := by
  intro n
  induction n using Nat.strongRecOn with
  | _ n ih =>
    by_cases h : n < 10
    · rw [dig_small n h]; simp
    · rw [dig_big n h, List.length_append]
      have := ih (n / 10) (by omega)
      simp; omega
theorem dig_len_pow : ∀ (m n : Nat), n < 10 ^ (m + 1) → (dig n).length ≤ m + 1 := by
  intro m
  induction m with
  | zero => intro n h; rw [dig_small n (by simpa using h)]; simp
  | succ m ih =>
    intro n h
    by_cases h10 : n < 10
    · rw [dig_small n h10]; simp
    · rw [dig_big n h10, List.length_append]
      have := ih (n / 10) (by rw [Nat.pow_succ] at h; omega)
      simp; omega
theorem cell_of_alloc {w w' : World} {v : Value} {t : TypeId} (h : Below (w.alloc (Obj.cells #[v] t)).drew.heap.size (w.alloc (Obj.cells #[v] t)).drew w') : w'.cell? ⟨w.heap.size, 0, none⟩ = some v := by
  have h0 : (⟨w.heap.size, 0, none⟩ : Addr).block < (w.alloc (Obj.cells #[v] t)).drew.heap.size := by simp
  exact (h.cell h0).trans (World.cell?_alloc_mark _ _ _ _ _)
/-- 'string([]byte{c})' -/
theorem conv1 (w : World) (g cap : Nat) (c : Int) (h : w.cell? ⟨g, 0, none⟩ = some (.int .u8 c)) :
    (convert 77 9 (.slice (some ⟨g, 0, none⟩) 1 cap)).run Try.prog w = .ok (.string ⟨#[UInt8.ofNat c.toNat]⟩) w := by
  rw [run_convert_bytes_string w 77 9 5 (some ⟨g, 0, none⟩) 1 cap Try.underlying77 Try.underlying5 Try.underlying9]
  have hl := run_loadCells_list (P := Try.prog) w ⟨g, 0, none⟩ [.int .u8 c] (fun j v hj => by
    match j with
    | 0 => simp at hj; subst hj; simpa [Addr.add] using h
    | j + 1 => simp at hj)
  rw [run_bytesToString w ⟨g, 0, none⟩ 1 cap [c] (by simpa using hl)]
  rfl
theorem u32_in (x : Int) (h0 : 0 ≤ x) (h : x < 4294967296) : IntKind.u32.wrap x = x := by
  unfold IntKind.wrap
  simp [IntKind.bits, IntKind.signed]
  omega
theorem byte_dig (n : Nat) (h : n < 10) : UInt8.ofNat (48 + (n : Int)).toNat = 48 + UInt8.ofNat n := by
  rw [show (48 + (n : Int)).toNat = 48 + n by omega]
  apply UInt8.toNat_inj.1
  simp
end Go.Proofs.Ytnihacajjpcjeaa
