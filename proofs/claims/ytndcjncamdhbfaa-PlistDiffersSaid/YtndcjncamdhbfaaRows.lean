/-
  No cell of these rows narrows 'for every input' (looked for: loops, veiled, ifaces, maps, wideKeys, modest, calm, conditions, laid).
  DERIVED. THE GIVEN ROWS OF THIS SEAT. 6 by the template 'for every input the law returns true; each argument reads behind the call as it read before'; 0 by the template 'total and deterministic' (their statements: YtndcjncamdhbfaaTotals.lean).
  GIVEN WITH THE SEED: the statements are not yours to turn. If you find one false, say at which input.
  Laid BY PROGRAM, IN A SANDBOX (cutbox-rows.mjs): the forced cells as the released guide's own fill.sh prints them over the translation 1b3c727bef29a39e… (all of the seat's roots in one cut). By AI agents, Wed Nov 11 2026. No macro, syntax, notation, axiom, sorry.
-/
import Derived.Test.YtndcjncamdhbfaaChecked
import GoSem.Claim
import GoSem.ClaimJoined
import GoSem.ClaimMapViews
import Derived.JoinedTies
import Derived.KernelRfl
namespace Go.Proofs.Ytndcjncamdhbfaa
/- THE CELL 'sum', in the pinned program and in every row, IS THE sha256 OF THE DUMP (.gsa) THAT YtndcjncamdhbfaaProg.lean LOADS. Nothing in Lean hashes anything: it is a label: what it is worth is what the hold of that sum in a sandbox is worth. -/
noncomputable def Try.pinned : Pinned := { name := "ytndcjncamdhbfaa", sum := "1b3c727bef29a39efb85bdf272f476a8ae75141fa699d39cd03565d286d1f9f4", checked := Try.checked }
namespace Rows
def none {H : Type} : Left H := { results := [], args := [] }

/-- 'whirligiglaw02.PlistTexts': WHATEVER THE INPUT: true; the input reads as it did. -/
def plistTextsSpec : ChangeSpec := { name := "plistTexts", fn := fun _ => fun
  | [d1, d2] => { results := [.lit (.bool true)], args := [d1, d2] }
  | _ => none }
def plistTextsRow : OpenClaim := { program := "ytndcjncamdhbfaa", sum := "1b3c727bef29a39efb85bdf272f476a8ae75141fa699d39cd03565d286d1f9f4", func := "whirligig/whirligiglaw02.PlistTexts", spec := "plistTexts", inPlace := ["internal/abi.NoEscape", "internal/bytealg.MakeNoZero"], recurses := true, apart := false }
def PlistTextsSaid : Prop := plistTextsRow.holds Try.pinned (OpenSpec.ofChange plistTextsSpec)

/-- ITS FALSE NEIGHBOUR: 'it returns false'. Refute it at one input. -/
def plistTextsWrong : ChangeSpec := { name := "plistTexts", fn := fun _ => fun
  | [d1, d2] => { results := [.lit (.bool false)], args := [d1, d2] }
  | _ => none }
def PlistTextsWrongFalsely : Prop := plistTextsRow.holds Try.pinned (OpenSpec.ofChange plistTextsWrong)

/-- 'whirligiglaw02.PlistLets': WHATEVER THE INPUT: true; the input reads as it did. -/
def plistLetsSpec : ChangeSpec := { name := "plistLets", fn := fun _ => fun
  | [d1, d2] => { results := [.lit (.bool true)], args := [d1, d2] }
  | _ => none }
def plistLetsRow : OpenClaim := { program := "ytndcjncamdhbfaa", sum := "1b3c727bef29a39efb85bdf272f476a8ae75141fa699d39cd03565d286d1f9f4", func := "whirligig/whirligiglaw02.PlistLets", spec := "plistLets", inPlace := ["internal/abi.NoEscape", "internal/bytealg.MakeNoZero"], unfollowed := true, recurses := true, apart := false }
def PlistLetsSaid : Prop := plistLetsRow.holds Try.pinned (OpenSpec.ofChange plistLetsSpec)

/-- ITS FALSE NEIGHBOUR: 'it returns false'. Refute it at one input. -/
def plistLetsWrong : ChangeSpec := { name := "plistLets", fn := fun _ => fun
  | [d1, d2] => { results := [.lit (.bool false)], args := [d1, d2] }
  | _ => none }
def PlistLetsWrongFalsely : Prop := plistLetsRow.holds Try.pinned (OpenSpec.ofChange plistLetsWrong)

/-- 'whirligiglaw02.PlistBehind': WHATEVER THE INPUT: true; the input reads as it did. -/
def plistBehindSpec : ChangeSpec := { name := "plistBehind", fn := fun _ => fun
  | [d1, d2, d3] => { results := [.lit (.bool true)], args := [d1, d2, d3] }
  | _ => none }
def plistBehindRow : OpenClaim := { program := "ytndcjncamdhbfaa", sum := "1b3c727bef29a39efb85bdf272f476a8ae75141fa699d39cd03565d286d1f9f4", func := "whirligig/whirligiglaw02.PlistBehind", spec := "plistBehind", inPlace := ["internal/abi.NoEscape", "internal/bytealg.MakeNoZero"], unfollowed := true, recurses := true, apart := false }
def PlistBehindSaid : Prop := plistBehindRow.holds Try.pinned (OpenSpec.ofChange plistBehindSpec)

/-- ITS FALSE NEIGHBOUR: 'it returns false'. Refute it at one input. -/
def plistBehindWrong : ChangeSpec := { name := "plistBehind", fn := fun _ => fun
  | [d1, d2, d3] => { results := [.lit (.bool false)], args := [d1, d2, d3] }
  | _ => none }
def PlistBehindWrongFalsely : Prop := plistBehindRow.holds Try.pinned (OpenSpec.ofChange plistBehindWrong)

/-- 'whirligiglaw02.PlistIdle': WHATEVER THE INPUT: true; the input reads as it did. -/
def plistIdleSpec : ChangeSpec := { name := "plistIdle", fn := fun _ => fun
  | [d1, d2, d3] => { results := [.lit (.bool true)], args := [d1, d2, d3] }
  | _ => none }
def plistIdleRow : OpenClaim := { program := "ytndcjncamdhbfaa", sum := "1b3c727bef29a39efb85bdf272f476a8ae75141fa699d39cd03565d286d1f9f4", func := "whirligig/whirligiglaw02.PlistIdle", spec := "plistIdle", inPlace := ["internal/abi.NoEscape", "internal/bytealg.MakeNoZero"], unfollowed := true, recurses := true, apart := false }
def PlistIdleSaid : Prop := plistIdleRow.holds Try.pinned (OpenSpec.ofChange plistIdleSpec)

/-- ITS FALSE NEIGHBOUR: 'it returns false'. Refute it at one input. -/
def plistIdleWrong : ChangeSpec := { name := "plistIdle", fn := fun _ => fun
  | [d1, d2, d3] => { results := [.lit (.bool false)], args := [d1, d2, d3] }
  | _ => none }
def PlistIdleWrongFalsely : Prop := plistIdleRow.holds Try.pinned (OpenSpec.ofChange plistIdleWrong)

/-- 'whirligiglaw02.PlistBare': WHATEVER THE INPUT: true; the input reads as it did. -/
def plistBareSpec : ChangeSpec := { name := "plistBare", fn := fun _ => fun
  | [d1, d2] => { results := [.lit (.bool true)], args := [d1, d2] }
  | _ => none }
def plistBareRow : OpenClaim := { program := "ytndcjncamdhbfaa", sum := "1b3c727bef29a39efb85bdf272f476a8ae75141fa699d39cd03565d286d1f9f4", func := "whirligig/whirligiglaw02.PlistBare", spec := "plistBare", inPlace := ["internal/abi.NoEscape", "internal/bytealg.MakeNoZero"], unfollowed := true, recurses := true, apart := false }
def PlistBareSaid : Prop := plistBareRow.holds Try.pinned (OpenSpec.ofChange plistBareSpec)

/-- ITS FALSE NEIGHBOUR: 'it returns false'. Refute it at one input. -/
def plistBareWrong : ChangeSpec := { name := "plistBare", fn := fun _ => fun
  | [d1, d2] => { results := [.lit (.bool false)], args := [d1, d2] }
  | _ => none }
def PlistBareWrongFalsely : Prop := plistBareRow.holds Try.pinned (OpenSpec.ofChange plistBareWrong)

/-- 'whirligiglaw02.PlistDiffers': WHATEVER THE INPUT: true; the input reads as it did. -/
def plistDiffersSpec : ChangeSpec := { name := "plistDiffers", fn := fun _ => fun
  | [d1, d2, d3] => { results := [.lit (.bool true)], args := [d1, d2, d3] }
  | _ => none }
def plistDiffersRow : OpenClaim := { program := "ytndcjncamdhbfaa", sum := "1b3c727bef29a39efb85bdf272f476a8ae75141fa699d39cd03565d286d1f9f4", func := "whirligig/whirligiglaw02.PlistDiffers", spec := "plistDiffers", inPlace := ["internal/abi.NoEscape", "internal/bytealg.MakeNoZero"], unfollowed := true, recurses := true, apart := false }
def PlistDiffersSaid : Prop := plistDiffersRow.holds Try.pinned (OpenSpec.ofChange plistDiffersSpec)

/-- ITS FALSE NEIGHBOUR: 'it returns false'. Refute it at one input. -/
def plistDiffersWrong : ChangeSpec := { name := "plistDiffers", fn := fun _ => fun
  | [d1, d2, d3] => { results := [.lit (.bool false)], args := [d1, d2, d3] }
  | _ => none }
def PlistDiffersWrongFalsely : Prop := plistDiffersRow.holds Try.pinned (OpenSpec.ofChange plistDiffersWrong)

/- THE SECOND FORM. 'bulk': how many values and letters a reading holds, each counted each time it is reached (what is shared counts as often as it is met; a slice's spare places count too). A statement '..UptoSaid' is the law's where the arguments, and the package variables that the reading takes, are together of bulk at most 1048576: NARROWER than '..Said'. Prove '..Said' where nothing that the law and all that it calls make is longer than what came in: it says more and counts as full. Else prove '..UptoSaid'. A law counts once. -/
mutual
def uptoBulk {H : Type} : DataW H → Nat
  | .lit (.string bytes) => bytes.length + 1
  | .lit _ => 1
  | .nil => 1
  | .ptr d => uptoBulk d + 1
  | .slice elems spare => uptoBulkAll elems + uptoBulkAll spare + 1
  | .agg parts => uptoBulkAll parts + 1
  | .iface _ d => uptoBulk d + 1
  | .map entries => uptoBulkEntries entries + 1
  | .held _ => 1
def uptoBulkAll {H : Type} : List (DataW H) → Nat
  | [] => 0
  | d :: r => uptoBulk d + uptoBulkAll r
def uptoBulkEntries {H : Type} : List (Lit × DataW H) → Nat
  | [] => 0
  | x :: r => uptoBulkEntry x + uptoBulkEntries r
def uptoBulkEntry {H : Type} : Lit × DataW H → Nat
  | (.string bytes, d) => bytes.length + uptoBulk d + 1
  | (_, d) => uptoBulk d + 1
 end
def uptoSmall : (H : Type) → List (DataW H) → Bool := fun _ ds => decide (uptoBulkAll ds ≤ 1048576)
def OpenSpec.upto (s : _root_.Go.ChangeSpec) : _root_.Go.OpenSpec := { _root_.Go.OpenSpec.ofChange s with cond := some uptoSmall }

/-- 'whirligiglaw02.PlistTexts', WHERE WHAT IT READS IS OF BULK AT MOST 1048576: true; the input reads as it did. -/
def plistTextsUptoRow : OpenClaim := { program := "ytndcjncamdhbfaa", sum := "1b3c727bef29a39efb85bdf272f476a8ae75141fa699d39cd03565d286d1f9f4", func := "whirligig/whirligiglaw02.PlistTexts", spec := "plistTexts", inPlace := ["internal/abi.NoEscape", "internal/bytealg.MakeNoZero"], recurses := true, apart := false, narrowed := true }
def PlistTextsUptoSaid : Prop := plistTextsUptoRow.holds Try.pinned (OpenSpec.upto plistTextsSpec)

/-- 'whirligiglaw02.PlistLets', WHERE WHAT IT READS IS OF BULK AT MOST 1048576: true; the input reads as it did. -/
def plistLetsUptoRow : OpenClaim := { program := "ytndcjncamdhbfaa", sum := "1b3c727bef29a39efb85bdf272f476a8ae75141fa699d39cd03565d286d1f9f4", func := "whirligig/whirligiglaw02.PlistLets", spec := "plistLets", inPlace := ["internal/abi.NoEscape", "internal/bytealg.MakeNoZero"], unfollowed := true, recurses := true, apart := false, narrowed := true }
def PlistLetsUptoSaid : Prop := plistLetsUptoRow.holds Try.pinned (OpenSpec.upto plistLetsSpec)

/-- 'whirligiglaw02.PlistBehind', WHERE WHAT IT READS IS OF BULK AT MOST 1048576: true; the input reads as it did. -/
def plistBehindUptoRow : OpenClaim := { program := "ytndcjncamdhbfaa", sum := "1b3c727bef29a39efb85bdf272f476a8ae75141fa699d39cd03565d286d1f9f4", func := "whirligig/whirligiglaw02.PlistBehind", spec := "plistBehind", inPlace := ["internal/abi.NoEscape", "internal/bytealg.MakeNoZero"], unfollowed := true, recurses := true, apart := false, narrowed := true }
def PlistBehindUptoSaid : Prop := plistBehindUptoRow.holds Try.pinned (OpenSpec.upto plistBehindSpec)

/-- 'whirligiglaw02.PlistIdle', WHERE WHAT IT READS IS OF BULK AT MOST 1048576: true; the input reads as it did. -/
def plistIdleUptoRow : OpenClaim := { program := "ytndcjncamdhbfaa", sum := "1b3c727bef29a39efb85bdf272f476a8ae75141fa699d39cd03565d286d1f9f4", func := "whirligig/whirligiglaw02.PlistIdle", spec := "plistIdle", inPlace := ["internal/abi.NoEscape", "internal/bytealg.MakeNoZero"], unfollowed := true, recurses := true, apart := false, narrowed := true }
def PlistIdleUptoSaid : Prop := plistIdleUptoRow.holds Try.pinned (OpenSpec.upto plistIdleSpec)

/-- 'whirligiglaw02.PlistBare', WHERE WHAT IT READS IS OF BULK AT MOST 1048576: true; the input reads as it did. -/
def plistBareUptoRow : OpenClaim := { program := "ytndcjncamdhbfaa", sum := "1b3c727bef29a39efb85bdf272f476a8ae75141fa699d39cd03565d286d1f9f4", func := "whirligig/whirligiglaw02.PlistBare", spec := "plistBare", inPlace := ["internal/abi.NoEscape", "internal/bytealg.MakeNoZero"], unfollowed := true, recurses := true, apart := false, narrowed := true }
def PlistBareUptoSaid : Prop := plistBareUptoRow.holds Try.pinned (OpenSpec.upto plistBareSpec)

/-- 'whirligiglaw02.PlistDiffers', WHERE WHAT IT READS IS OF BULK AT MOST 1048576: true; the input reads as it did. -/
def plistDiffersUptoRow : OpenClaim := { program := "ytndcjncamdhbfaa", sum := "1b3c727bef29a39efb85bdf272f476a8ae75141fa699d39cd03565d286d1f9f4", func := "whirligig/whirligiglaw02.PlistDiffers", spec := "plistDiffers", inPlace := ["internal/abi.NoEscape", "internal/bytealg.MakeNoZero"], unfollowed := true, recurses := true, apart := false, narrowed := true }
def PlistDiffersUptoSaid : Prop := plistDiffersUptoRow.holds Try.pinned (OpenSpec.upto plistDiffersSpec)

end Rows
end Go.Proofs.Ytndcjncamdhbfaa
