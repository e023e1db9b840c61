/- Facts kept out of the walk's sight; small words of worlds. -/
import Derived.Test.YtnihacajjpcjeaaProg
import Derived.WalkKit
import Derived.ProofKit
import Derived.WalkMore
import Derived.Deep.LoopGhost
import Derived.Deep.QuietTactic
import Derived.BigQuiet
import Derived.OneCell
import Derived.IntWalk
import Derived.Laws.AppendOwn
import Derived.Laws.OwnMore
import Derived.RegionTactic
import Derived.Deep.RegionLaw
import Derived.Deep.RegionHeld3
import Derived.Deep.AppendLies
import Derived.OwnWalk
import Derived.Below
set_option linter.unusedVariables false
set_option linter.unusedSimpArgs false
namespace Go.Proofs.Ytnihacajjpcjeaa
open Go.RowKit

theorem mkHid {p : Prop} (h : p) : Hid p := h
theorem below_drewN' {B : Nat} {a w : World} (h : Below B a w) (n : Nat) : Below B a (w.drewN n) := ⟨h.os, h.tape, h.output, h.size, h.block⟩
theorem below_tr {a b c d : World} (h : Below a.heap.size a b) (k : Below d.heap.size d c) (e1 : b.heap = d.heap := by rfl) (e2 : b.tape = d.tape := by rfl) (e3 : b.output = d.output := by rfl) (e4 : b.os = d.os := by rfl) : Below a.heap.size a c := by
  have s := h.size
  refine h.trans ⟨k.os.trans e4.symm, k.tape.trans e2.symm, k.output.trans e3.symm, by rw [e1]; exact k.size, fun i hi => ?_⟩
  rw [e1]; exact k.block i (by rw [← e1]; omega)
theorem app_list (l m : List UInt8) : (⟨l.toArray⟩ : ByteArray) ++ ⟨m.toArray⟩ = ⟨(l ++ m).toArray⟩ := by
  apply ByteArray.ext; simp [ByteArray.data_append]
theorem size_list (l : List UInt8) : (⟨l.toArray⟩ : ByteArray).size = l.length := by simp [ByteArray.size]
end Go.Proofs.Ytnihacajjpcjeaa
