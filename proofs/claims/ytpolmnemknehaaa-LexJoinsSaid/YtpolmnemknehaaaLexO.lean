/- LexJoins: the argument's view; the walks of what makes the program's tokens, and of the reference's Join. -/
import Derived.Test.YtpolmnemknehaaaLexK
import Derived.Test.YtpolmnemknehaaaView
import Derived.Test.YtpolmnemknehaaaLexN
set_option linter.unusedVariables false
set_option linter.unusedSimpArgs false
namespace Go.Proofs.Ytpolmnemknehaaa
open Go.RowKit

def vI : View Try.prog 3 Int := vInt .i64 Try.underlying3
def vS : View Try.prog 9 (List UInt8) := vStr Try.underlying9
def vPos : View Try.prog 25 (Int × Int × Unit) := vStruct Try.underlying25 (by kernel_rfl) (fCons (n := 1) _ rfl (by kernel_rfl) vI (fCons (n := 1) _ rfl (by kernel_rfl) vI (fNil _)))
def vTok0 : View Try.prog 35 (Int × List UInt8 × (Int × Int × Unit) × Unit) := vStruct Try.underlying35 (by kernel_rfl) (fCons (n := 1) _ rfl (by kernel_rfl) vI (fCons (n := 1) _ rfl (by kernel_rfl) vS (fCons (n := 2) _ rfl (by kernel_rfl) vPos (fNil _))))
def vTok : View Try.prog 35 Tok := vMap vTok0 (fun x => ⟨x.1, x.2.1, x.2.2.1.1, x.2.2.1.2.1⟩) (fun t => (t.k, t.t, (t.l, t.c, ()), ())) (fun _ => rfl)
def vToks : View Try.prog 33 (List Tok) := vSlice 4 Try.underlying33 (by kernel_rfl) (by decide) vTok

/-- the argument: tokens -/
def ArgT (w : World) (A : Option Addr) (ts : List Tok) : Prop := ∀ i T, ts[i]? = some T → ∃ g o, A = some ⟨g, o, none⟩ ∧ g < w.heap.size ∧
  w.cell? ⟨g, o + i * 4, none⟩ = some (.int .i64 T.k) ∧ w.cell? ⟨g, o + i * 4 + 1, none⟩ = some (.string ⟨T.t.toArray⟩) ∧ w.cell? ⟨g, o + i * 4 + 2, none⟩ = some (.int .i64 T.l) ∧ w.cell? ⟨g, o + i * 4 + 3, none⟩ = some (.int .i64 T.c) ∧ T.t.length ≤ maxLen

theorem argT_open {w : World} {cs : List Value} {ts : List Tok} (h : vToks.R w cs ts) : ∃ A cap, cs = [.slice A ts.length cap] ∧ ts.length ≤ cap ∧ cap ≤ maxLen ∧ ArgT w A ts := by
  obtain ⟨v, h1, A, cap, h2, h3, h4, h5, h6⟩ := h
  refine ⟨A, cap, by rw [h1, h2], h3, h4, fun i T hT => ?_⟩
  obtain ⟨g, o, cs, a1, a2, a3, a4, a5⟩ := h6 i T hT
  simp only [vTok, vMap, vTok0, vPos, vStruct, fCons, fNil, vI, vS, vInt, vStr] at a5
  obtain ⟨c0, d0, e0, ⟨b0, _⟩, c1, d1, e1, ⟨b1, hl⟩, c2, d2, e2, ⟨c3, d3, e3, ⟨b3, _⟩, c4, d4, e4, ⟨b4, _⟩, b5⟩, b6⟩ := a5
  subst b0 b1 b3 b4 b5 b6 e4 e3 e2 e1 e0
  exact ⟨g, o, a1, a2, a4 0 _ rfl, a4 1 _ rfl, a4 2 _ rfl, a4 3 _ rfl, hl⟩
theorem ArgT.keeps {w w' : World} {A : Option Addr} {ts : List Tok} (h : ArgT w A ts) (hb : Below w.heap.size w w') : ArgT w' A ts := by
  intro i T hT
  obtain ⟨g, o, h1, h2, h3, h4, h5, h6, h7⟩ := h i T hT
  have e : ∀ j, w'.cell? ⟨g, j, none⟩ = w.cell? ⟨g, j, none⟩ := fun j => hb.cell h2
  exact ⟨g, o, h1, by have := hb.size; omega, by rw [e]; exact h3, by rw [e]; exact h4, by rw [e]; exact h5, by rw [e]; exact h6, h7⟩
end Go.Proofs.Ytpolmnemknehaaa
