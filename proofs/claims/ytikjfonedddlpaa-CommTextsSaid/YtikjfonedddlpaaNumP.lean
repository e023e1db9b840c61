/- The number of some digits, plainly. -/
import Derived.Test.YtikjfonedddlpaaDigP
import Derived.Lib.ConvBytes
set_option linter.unusedVariables false
namespace Go.Proofs.Ytikjfonedddlpaa
open Go.RowKit

def isDg (c : UInt8) : Bool := decide (48 ≤ c.toNat) && decide (c.toNat ≤ 57)
def numF (lim : Int) (n : Int) : List UInt8 → Int
  | [] => n
  | c :: l => numF lim (min (10 * n + ((c.toNat : Int) - 48)) lim) l
/-- the number of some digits, at most lim; false: they are none -/
def numL (lim : Int) (l : List UInt8) : Int × Bool :=
  if l = [] ∨ (1 < l.length ∧ l.head? = some 48) then (0, false) else if l.all isDg then (numF lim 0 l, true) else (0, false)
theorem numF_rng (lim : Int) (h0 : 0 ≤ lim) : ∀ (l : List UInt8) (n : Int), 0 ≤ n → n ≤ lim → l.all isDg = true → 0 ≤ numF lim n l ∧ numF lim n l ≤ lim := by
  intro l
  induction l with
  | nil => intro n h1 h2 _; exact ⟨h1, h2⟩
  | cons c l ih =>
    intro n h1 h2 h3
    rw [List.all_cons, Bool.and_eq_true] at h3
    have hc := h3.1
    unfold isDg at hc
    simp at hc
    exact ih _ (by omega) (by omega) h3.2
theorem head_byte (s : ByteArray) (h : 0 < s.size) : s.data.toList.head? = some (s[0]'h) := by
  have h' : 0 < s.data.size := h
  rw [List.head?_eq_getElem?, Array.getElem?_toList]
  exact Array.getElem?_eq_getElem h'
theorem head48f (s : ByteArray) (h : 0 < s.size) (hh : ¬ s.data.toList.head? = some 48) : (((s[0]'h).toNat : Int) == 48) = false := by
  rw [head_byte s h] at hh
  rw [beq_eq_false_iff_ne]
  intro e
  apply hh
  congr 1
  apply UInt8.toNat_inj.1
  show (s[0]'h).toNat = 48
  omega
theorem head48t (s : ByteArray) (h : 0 < s.size) (hh : s.data.toList.head? = some 48) : (((s[0]'h).toNat : Int) == 48) = true := by
  rw [head_byte s h] at hh
  rw [Option.some.inj hh]; rfl
theorem bytesWorld_below (w : World) (e : TypeId) (s : ByteArray) : Below w.heap.size w (Lib.bytesWorld w e s) :=
  ⟨rfl, rfl, rfl, by rw [Lib.bytesWorld_size]; omega, fun k hk => Lib.bytesWorld_at_old w e s k hk⟩
end Go.Proofs.Ytikjfonedddlpaa
