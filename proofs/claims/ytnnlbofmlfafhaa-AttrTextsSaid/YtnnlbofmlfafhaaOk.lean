/- Readings of the arguments' types of this seat's laws, with their bounds. -/
import Derived.Test.YtnnlbofmlfafhaaRV
import Derived.Test.YtnnlbofmlfafhaaPx0
import Derived.KernelRfl
namespace Go.Proofs.Ytnnlbofmlfafhaa.P
open Go.Proofs.YtnnlbofmlfafhaaW.PrintWords Go.Proofs.YtnnlbofmlfafhaaW.PrintLast Go.Proofs.YtnnlbofmlfafhaaW.PrintMore
set_option linter.unusedVariables false
def r3 : RV Try.prog 3 Int (Kd.int .i64) := rInt .i64 Try.underlying3 (by kernel_rfl)
def r27 : RV Try.prog 27 (List (Int)) (Kd.slice 3 (Kd.int .i64)) := rSlice (B := 8) Try.underlying27 (by kernel_rfl) (by kernel_rfl) (by decide) (by decide) r3
def ok63 (x : S63) : Prop := (okI .i64) x.f0 ∧ (okI .i64) x.f1
def r63 : RV Try.prog 63 S63 k63 := rStruct Try.underlying63 (by kernel_rfl) (by kernel_rfl) (fCons (n := 1) _ rfl (by kernel_rfl) r3 (fCons (n := 1) _ rfl (by kernel_rfl) r3 (fNil _))) (fun x => ⟨x.1, x.2.1⟩) (by rintro w x cs ⟨c0, _, rfl, h0, c1, _, rfl, h1, rfl⟩; exact ⟨c0, _, rfl, h0, (by rw [List.append_nil]; exact h1)⟩) ok63 (fun x h => ⟨h.1, h.2.1⟩)
def r28 : RV Try.prog 28 (List (S63)) (Kd.slice 63 k63) := rSlice (B := 16) Try.underlying28 (by kernel_rfl) (by kernel_rfl) (by decide) (by decide) r63
def ok30 (x : S30) : Prop := (okI .i64) x.f0 ∧ (okI .i64) x.f1 ∧ (okI .i64) x.f2 ∧ (okL 8 (okI .i64)) x.f3 ∧ (okL 16 (ok63)) x.f4 ∧ (okI .i64) x.f5 ∧ (okL 8 (okI .i64)) x.f6
def r30 : RV Try.prog 30 S30 k30 := rStruct Try.underlying30 (by kernel_rfl) (by kernel_rfl) (fCons (n := 1) _ rfl (by kernel_rfl) r3 (fCons (n := 1) _ rfl (by kernel_rfl) r3 (fCons (n := 1) _ rfl (by kernel_rfl) r3 (fCons (n := 1) _ rfl (by kernel_rfl) r27 (fCons (n := 1) _ rfl (by kernel_rfl) r28 (fCons (n := 1) _ rfl (by kernel_rfl) r3 (fCons (n := 1) _ rfl (by kernel_rfl) r27 (fNil _)))))))) (fun x => ⟨x.1, x.2.1, x.2.2.1, x.2.2.2.1, x.2.2.2.2.1, x.2.2.2.2.2.1, x.2.2.2.2.2.2.1⟩) (by rintro w x cs ⟨c0, _, rfl, h0, c1, _, rfl, h1, c2, _, rfl, h2, c3, _, rfl, h3, c4, _, rfl, h4, c5, _, rfl, h5, c6, _, rfl, h6, rfl⟩; exact ⟨c0, _, rfl, h0, ⟨c1, _, rfl, h1, ⟨c2, _, rfl, h2, ⟨c3, _, rfl, h3, ⟨c4, _, rfl, h4, ⟨c5, _, rfl, h5, (by rw [List.append_nil]; exact h6)⟩⟩⟩⟩⟩⟩) ok30 (fun x h => ⟨h.1, h.2.1, h.2.2.1, h.2.2.2.1, h.2.2.2.2.1, h.2.2.2.2.2.1, h.2.2.2.2.2.2.1⟩)
end Go.Proofs.Ytnnlbofmlfafhaa.P
