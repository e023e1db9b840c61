/- LexJoins: the law over the row's own argument. -/
import Derived.Test.YtpolmnemknehaaaLexV
set_option linter.unusedVariables false
set_option linter.unusedSimpArgs false
namespace Go.Proofs.Ytpolmnemknehaaa
open Go.RowKit

theorem joins_row (a : Option Addr) (len cap : Nat) (w : World) (ts : List Tok) (h : vToks.R w (Value.slice a len cap).cells.toList ts) :
    Calls Try.prog 4 #[.slice a len cap] w fun e w' => e = .returned (.bool true) ∧ Below w.heap.size w w' := by
  obtain ⟨A, c, h1, h2, h3, h4⟩ := argT_open h
  simp [Value.cells] at h1
  obtain ⟨rfl, rfl, rfl⟩ := h1
  exact joins_any _ _ ts w h2 h3 h4
end Go.Proofs.Ytpolmnemknehaaa
