/-
  No cell of these rows narrows 'for every input' (looked for: loops, veiled, ifaces, maps, wideKeys, modest, calm, conditions, laid).
  DERIVED. THE GIVEN ROWS OF THIS SEAT. 6 by the template 'for every input the law returns true; each argument reads behind the call as it read before'; 0 by the template 'total and deterministic' (their statements: YtikjfonedddlpaaTotals.lean).
  GIVEN WITH THE SEED: the statements are not yours to turn. If you find one false, say at which input.
  Laid BY PROGRAM, IN A SANDBOX (cutbox-rows.mjs): the forced cells as the released guide's own fill.sh prints them over the translation 30bfe6ef7bef0d6b… (all of the seat's roots in one cut). By AI agents, Wed Nov 11 2026. No macro, syntax, notation, axiom, sorry.
-/
import Derived.Test.YtikjfonedddlpaaChecked
import GoSem.Claim
import GoSem.ClaimJoined
import GoSem.ClaimMapViews
import Derived.JoinedTies
import Derived.KernelRfl
namespace Go.Proofs.Ytikjfonedddlpaa
/- THE CELL 'sum', in the pinned program and in every row, IS THE sha256 OF THE DUMP (.gsa) THAT YtikjfonedddlpaaProg.lean LOADS. Nothing in Lean hashes anything: it is a label: what it is worth is what the hold of that sum in a sandbox is worth. -/
noncomputable def Try.pinned : Pinned := { name := "ytikjfonedddlpaa", sum := "30bfe6ef7bef0d6bc53a68166e46ab066ffb3a67b92e946e4a94ea1de97b7d5a", checked := Try.checked }
namespace Rows
def none {H : Type} : Left H := { results := [], args := [] }

/-- 'whirligiglaw03.CommTexts': WHATEVER THE INPUT: true; the input reads as it did. -/
def commTextsSpec : ChangeSpec := { name := "commTexts", fn := fun _ => fun
  | [d1, d2] => { results := [.lit (.bool true)], args := [d1, d2] }
  | _ => none }
def commTextsRow : OpenClaim := { program := "ytikjfonedddlpaa", sum := "30bfe6ef7bef0d6bc53a68166e46ab066ffb3a67b92e946e4a94ea1de97b7d5a", func := "whirligig/whirligiglaw03.CommTexts", spec := "commTexts", inPlace := ["internal/bytealg.IndexByteString", "internal/bytealg.IndexString", "internal/abi.NoEscape", "internal/bytealg.MakeNoZero"], unfollowed := true, recurses := true, named := ["internal/bytealg.MaxLen"], apart := false }
def CommTextsSaid : Prop := commTextsRow.holds Try.pinned (OpenSpec.ofChange commTextsSpec)

/-- ITS FALSE NEIGHBOUR: 'it returns false'. Refute it at one input. -/
def commTextsWrong : ChangeSpec := { name := "commTexts", fn := fun _ => fun
  | [d1, d2] => { results := [.lit (.bool false)], args := [d1, d2] }
  | _ => none }
def CommTextsWrongFalsely : Prop := commTextsRow.holds Try.pinned (OpenSpec.ofChange commTextsWrong)

/-- 'whirligiglaw03.CommAdds': WHATEVER THE INPUT: true; the input reads as it did. -/
def commAddsSpec : ChangeSpec := { name := "commAdds", fn := fun _ => fun
  | [d1, d2] => { results := [.lit (.bool true)], args := [d1, d2] }
  | _ => none }
def commAddsRow : OpenClaim := { program := "ytikjfonedddlpaa", sum := "30bfe6ef7bef0d6bc53a68166e46ab066ffb3a67b92e946e4a94ea1de97b7d5a", func := "whirligig/whirligiglaw03.CommAdds", spec := "commAdds", inPlace := ["internal/bytealg.IndexByteString", "internal/bytealg.IndexString", "internal/abi.NoEscape", "internal/bytealg.MakeNoZero"], unfollowed := true, recurses := true, named := ["internal/bytealg.MaxLen"], apart := false }
def CommAddsSaid : Prop := commAddsRow.holds Try.pinned (OpenSpec.ofChange commAddsSpec)

/-- ITS FALSE NEIGHBOUR: 'it returns false'. Refute it at one input. -/
def commAddsWrong : ChangeSpec := { name := "commAdds", fn := fun _ => fun
  | [d1, d2] => { results := [.lit (.bool false)], args := [d1, d2] }
  | _ => none }
def CommAddsWrongFalsely : Prop := commAddsRow.holds Try.pinned (OpenSpec.ofChange commAddsWrong)

/-- 'whirligiglaw03.CommOrder': WHATEVER THE INPUT: true; the input reads as it did. -/
def commOrderSpec : ChangeSpec := { name := "commOrder", fn := fun _ => fun
  | [d1, d2, d3] => { results := [.lit (.bool true)], args := [d1, d2, d3] }
  | _ => none }
def commOrderRow : OpenClaim := { program := "ytikjfonedddlpaa", sum := "30bfe6ef7bef0d6bc53a68166e46ab066ffb3a67b92e946e4a94ea1de97b7d5a", func := "whirligig/whirligiglaw03.CommOrder", spec := "commOrder", inPlace := ["internal/bytealg.IndexByteString", "internal/bytealg.IndexString", "internal/abi.NoEscape", "internal/bytealg.MakeNoZero"], unfollowed := true, recurses := true, named := ["internal/bytealg.MaxLen"], apart := false }
def CommOrderSaid : Prop := commOrderRow.holds Try.pinned (OpenSpec.ofChange commOrderSpec)

/-- ITS FALSE NEIGHBOUR: 'it returns false'. Refute it at one input. -/
def commOrderWrong : ChangeSpec := { name := "commOrder", fn := fun _ => fun
  | [d1, d2, d3] => { results := [.lit (.bool false)], args := [d1, d2, d3] }
  | _ => none }
def CommOrderWrongFalsely : Prop := commOrderRow.holds Try.pinned (OpenSpec.ofChange commOrderWrong)

/-- 'whirligiglaw03.CommSets': WHATEVER THE INPUT: true; the input reads as it did. -/
def commSetsSpec : ChangeSpec := { name := "commSets", fn := fun _ => fun
  | [d1, d2, d3] => { results := [.lit (.bool true)], args := [d1, d2, d3] }
  | _ => none }
def commSetsRow : OpenClaim := { program := "ytikjfonedddlpaa", sum := "30bfe6ef7bef0d6bc53a68166e46ab066ffb3a67b92e946e4a94ea1de97b7d5a", func := "whirligig/whirligiglaw03.CommSets", spec := "commSets", inPlace := ["internal/bytealg.IndexByteString", "internal/bytealg.IndexString", "internal/abi.NoEscape", "internal/bytealg.MakeNoZero"], unfollowed := true, recurses := true, named := ["internal/bytealg.MaxLen"], apart := false }
def CommSetsSaid : Prop := commSetsRow.holds Try.pinned (OpenSpec.ofChange commSetsSpec)

/-- ITS FALSE NEIGHBOUR: 'it returns false'. Refute it at one input. -/
def commSetsWrong : ChangeSpec := { name := "commSets", fn := fun _ => fun
  | [d1, d2, d3] => { results := [.lit (.bool false)], args := [d1, d2, d3] }
  | _ => none }
def CommSetsWrongFalsely : Prop := commSetsRow.holds Try.pinned (OpenSpec.ofChange commSetsWrong)

/-- 'whirligiglaw03.CommDels': WHATEVER THE INPUT: true; the input reads as it did. -/
def commDelsSpec : ChangeSpec := { name := "commDels", fn := fun _ => fun
  | [d1, d2] => { results := [.lit (.bool true)], args := [d1, d2] }
  | _ => none }
def commDelsRow : OpenClaim := { program := "ytikjfonedddlpaa", sum := "30bfe6ef7bef0d6bc53a68166e46ab066ffb3a67b92e946e4a94ea1de97b7d5a", func := "whirligig/whirligiglaw03.CommDels", spec := "commDels", inPlace := ["internal/bytealg.IndexByteString", "internal/bytealg.IndexString", "internal/abi.NoEscape", "internal/bytealg.MakeNoZero"], unfollowed := true, recurses := true, named := ["internal/bytealg.MaxLen"], apart := false }
def CommDelsSaid : Prop := commDelsRow.holds Try.pinned (OpenSpec.ofChange commDelsSpec)

/-- ITS FALSE NEIGHBOUR: 'it returns false'. Refute it at one input. -/
def commDelsWrong : ChangeSpec := { name := "commDels", fn := fun _ => fun
  | [d1, d2] => { results := [.lit (.bool false)], args := [d1, d2] }
  | _ => none }
def CommDelsWrongFalsely : Prop := commDelsRow.holds Try.pinned (OpenSpec.ofChange commDelsWrong)

/-- 'whirligiglaw03.CommBack': WHATEVER THE INPUT: true; the input reads as it did. -/
def commBackSpec : ChangeSpec := { name := "commBack", fn := fun _ => fun
  | [d1, d2, d3] => { results := [.lit (.bool true)], args := [d1, d2, d3] }
  | _ => none }
def commBackRow : OpenClaim := { program := "ytikjfonedddlpaa", sum := "30bfe6ef7bef0d6bc53a68166e46ab066ffb3a67b92e946e4a94ea1de97b7d5a", func := "whirligig/whirligiglaw03.CommBack", spec := "commBack", inPlace := ["internal/bytealg.IndexByteString", "internal/bytealg.IndexString", "internal/abi.NoEscape", "internal/bytealg.MakeNoZero"], unfollowed := true, recurses := true, named := ["internal/bytealg.MaxLen"], apart := false }
def CommBackSaid : Prop := commBackRow.holds Try.pinned (OpenSpec.ofChange commBackSpec)

/-- ITS FALSE NEIGHBOUR: 'it returns false'. Refute it at one input. -/
def commBackWrong : ChangeSpec := { name := "commBack", fn := fun _ => fun
  | [d1, d2, d3] => { results := [.lit (.bool false)], args := [d1, d2, d3] }
  | _ => none }
def CommBackWrongFalsely : Prop := commBackRow.holds Try.pinned (OpenSpec.ofChange commBackWrong)

/- THE SECOND FORM. 'bulk': how many values and letters a reading holds, each counted each time it is reached (what is shared counts as often as it is met; a slice's spare places count too). A statement '..UptoSaid' is the law's where the arguments, and the package variables that the reading takes, are together of bulk at most 1048576: NARROWER than '..Said'. Prove '..Said' where nothing that the law and all that it calls make is longer than what came in: it says more and counts as full. Else prove '..UptoSaid'. A law counts once. -/
mutual
def uptoBulk {H : Type} : DataW H → Nat
  | .lit (.string bytes) => bytes.length + 1
  | .lit _ => 1
  | .nil => 1
  | .ptr d => uptoBulk d + 1
  | .slice elems spare => uptoBulkAll elems + uptoBulkAll spare + 1
  | .agg parts => uptoBulkAll parts + 1
  | .iface _ d => uptoBulk d + 1
  | .map entries => uptoBulkEntries entries + 1
  | .held _ => 1
def uptoBulkAll {H : Type} : List (DataW H) → Nat
  | [] => 0
  | d :: r => uptoBulk d + uptoBulkAll r
def uptoBulkEntries {H : Type} : List (Lit × DataW H) → Nat
  | [] => 0
  | x :: r => uptoBulkEntry x + uptoBulkEntries r
def uptoBulkEntry {H : Type} : Lit × DataW H → Nat
  | (.string bytes, d) => bytes.length + uptoBulk d + 1
  | (_, d) => uptoBulk d + 1
 end
def uptoSmall : (H : Type) → List (DataW H) → Bool := fun _ ds => decide (uptoBulkAll ds ≤ 1048576)
def OpenSpec.upto (s : _root_.Go.ChangeSpec) : _root_.Go.OpenSpec := { _root_.Go.OpenSpec.ofChange s with cond := some uptoSmall }

/-- 'whirligiglaw03.CommTexts', WHERE WHAT IT READS IS OF BULK AT MOST 1048576: true; the input reads as it did. -/
def commTextsUptoRow : OpenClaim := { program := "ytikjfonedddlpaa", sum := "30bfe6ef7bef0d6bc53a68166e46ab066ffb3a67b92e946e4a94ea1de97b7d5a", func := "whirligig/whirligiglaw03.CommTexts", spec := "commTexts", inPlace := ["internal/bytealg.IndexByteString", "internal/bytealg.IndexString", "internal/abi.NoEscape", "internal/bytealg.MakeNoZero"], unfollowed := true, recurses := true, named := ["internal/bytealg.MaxLen"], apart := false, narrowed := true }
def CommTextsUptoSaid : Prop := commTextsUptoRow.holds Try.pinned (OpenSpec.upto commTextsSpec)

/-- 'whirligiglaw03.CommAdds', WHERE WHAT IT READS IS OF BULK AT MOST 1048576: true; the input reads as it did. -/
def commAddsUptoRow : OpenClaim := { program := "ytikjfonedddlpaa", sum := "30bfe6ef7bef0d6bc53a68166e46ab066ffb3a67b92e946e4a94ea1de97b7d5a", func := "whirligig/whirligiglaw03.CommAdds", spec := "commAdds", inPlace := ["internal/bytealg.IndexByteString", "internal/bytealg.IndexString", "internal/abi.NoEscape", "internal/bytealg.MakeNoZero"], unfollowed := true, recurses := true, named := ["internal/bytealg.MaxLen"], apart := false, narrowed := true }
def CommAddsUptoSaid : Prop := commAddsUptoRow.holds Try.pinned (OpenSpec.upto commAddsSpec)

/-- 'whirligiglaw03.CommOrder', WHERE WHAT IT READS IS OF BULK AT MOST 1048576: true; the input reads as it did. -/
def commOrderUptoRow : OpenClaim := { program := "ytikjfonedddlpaa", sum := "30bfe6ef7bef0d6bc53a68166e46ab066ffb3a67b92e946e4a94ea1de97b7d5a", func := "whirligig/whirligiglaw03.CommOrder", spec := "commOrder", inPlace := ["internal/bytealg.IndexByteString", "internal/bytealg.IndexString", "internal/abi.NoEscape", "internal/bytealg.MakeNoZero"], unfollowed := true, recurses := true, named := ["internal/bytealg.MaxLen"], apart := false, narrowed := true }
def CommOrderUptoSaid : Prop := commOrderUptoRow.holds Try.pinned (OpenSpec.upto commOrderSpec)

/-- 'whirligiglaw03.CommSets', WHERE WHAT IT READS IS OF BULK AT MOST 1048576: true; the input reads as it did. -/
def commSetsUptoRow : OpenClaim := { program := "ytikjfonedddlpaa", sum := "30bfe6ef7bef0d6bc53a68166e46ab066ffb3a67b92e946e4a94ea1de97b7d5a", func := "whirligig/whirligiglaw03.CommSets", spec := "commSets", inPlace := ["internal/bytealg.IndexByteString", "internal/bytealg.IndexString", "internal/abi.NoEscape", "internal/bytealg.MakeNoZero"], unfollowed := true, recurses := true, named := ["internal/bytealg.MaxLen"], apart := false, narrowed := true }
def CommSetsUptoSaid : Prop := commSetsUptoRow.holds Try.pinned (OpenSpec.upto commSetsSpec)

/-- 'whirligiglaw03.CommDels', WHERE WHAT IT READS IS OF BULK AT MOST 1048576: true; the input reads as it did. -/
def commDelsUptoRow : OpenClaim := { program := "ytikjfonedddlpaa", sum := "30bfe6ef7bef0d6bc53a68166e46ab066ffb3a67b92e946e4a94ea1de97b7d5a", func := "whirligig/whirligiglaw03.CommDels", spec := "commDels", inPlace := ["internal/bytealg.IndexByteString", "internal/bytealg.IndexString", "internal/abi.NoEscape", "internal/bytealg.MakeNoZero"], unfollowed := true, recurses := true, named := ["internal/bytealg.MaxLen"], apart := false, narrowed := true }
def CommDelsUptoSaid : Prop := commDelsUptoRow.holds Try.pinned (OpenSpec.upto commDelsSpec)

/-- 'whirligiglaw03.CommBack', WHERE WHAT IT READS IS OF BULK AT MOST 1048576: true; the input reads as it did. -/
def commBackUptoRow : OpenClaim := { program := "ytikjfonedddlpaa", sum := "30bfe6ef7bef0d6bc53a68166e46ab066ffb3a67b92e946e4a94ea1de97b7d5a", func := "whirligig/whirligiglaw03.CommBack", spec := "commBack", inPlace := ["internal/bytealg.IndexByteString", "internal/bytealg.IndexString", "internal/abi.NoEscape", "internal/bytealg.MakeNoZero"], unfollowed := true, recurses := true, named := ["internal/bytealg.MaxLen"], apart := false, narrowed := true }
def CommBackUptoSaid : Prop := commBackUptoRow.holds Try.pinned (OpenSpec.upto commBackSpec)

end Rows
end Go.Proofs.Ytikjfonedddlpaa
