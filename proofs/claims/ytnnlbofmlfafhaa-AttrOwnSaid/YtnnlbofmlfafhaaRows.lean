/-
  No cell of these rows narrows 'for every input' (looked for: loops, veiled, ifaces, maps, wideKeys, modest, calm, conditions, laid).
  DERIVED. THE GIVEN ROWS OF THIS SEAT. 6 by the template 'for every input the law returns true; each argument reads behind the call as it read before'; 0 by the template 'total and deterministic' (their statements: YtnnlbofmlfafhaaTotals.lean).
  GIVEN WITH THE SEED: the statements are not yours to turn. If you find one false, say at which input.
  Laid BY PROGRAM, IN A SANDBOX (cutbox-rows.mjs): the forced cells as the released guide's own fill.sh prints them over the translation 258c5ec850112061… (all of the seat's roots in one cut). By AI agents, Wed Nov 11 2026. No macro, syntax, notation, axiom, sorry.
-/
import Derived.Test.YtnnlbofmlfafhaaChecked
import GoSem.Claim
import GoSem.ClaimJoined
import GoSem.ClaimMapViews
import Derived.JoinedTies
import Derived.KernelRfl
namespace Go.Proofs.Ytnnlbofmlfafhaa
/- THE CELL 'sum', in the pinned program and in every row, IS THE sha256 OF THE DUMP (.gsa) THAT YtnnlbofmlfafhaaProg.lean LOADS. Nothing in Lean hashes anything: it is a label: what it is worth is what the hold of that sum in a sandbox is worth. -/
noncomputable def Try.pinned : Pinned := { name := "ytnnlbofmlfafhaa", sum := "258c5ec850112061ccd031745531c6fd492bfbe252b4ee3e2e4f565c555218e6", checked := Try.checked }
namespace Rows
def none {H : Type} : Left H := { results := [], args := [] }

/-- 'whirligiglaw09.AttrSums': WHATEVER THE INPUT: true; the input reads as it did. -/
def attrSumsSpec : ChangeSpec := { name := "attrSums", fn := fun _ => fun
  | [d1, d2] => { results := [.lit (.bool true)], args := [d1, d2] }
  | _ => none }
def attrSumsRow : OpenClaim := { program := "ytnnlbofmlfafhaa", sum := "258c5ec850112061ccd031745531c6fd492bfbe252b4ee3e2e4f565c555218e6", func := "whirligig/whirligiglaw09.AttrSums", spec := "attrSums", inPlace := ["internal/abi.NoEscape", "internal/bytealg.MakeNoZero"], unfollowed := true, recurses := true, apart := false }
def AttrSumsSaid : Prop := attrSumsRow.holds Try.pinned (OpenSpec.ofChange attrSumsSpec)

/-- ITS FALSE NEIGHBOUR: 'it returns false'. Refute it at one input. -/
def attrSumsWrong : ChangeSpec := { name := "attrSums", fn := fun _ => fun
  | [d1, d2] => { results := [.lit (.bool false)], args := [d1, d2] }
  | _ => none }
def AttrSumsWrongFalsely : Prop := attrSumsRow.holds Try.pinned (OpenSpec.ofChange attrSumsWrong)

/-- 'whirligiglaw09.AttrOrder': WHATEVER THE INPUT: true; the input reads as it did. -/
def attrOrderSpec : ChangeSpec := { name := "attrOrder", fn := fun _ => fun
  | [d1, d2, d3] => { results := [.lit (.bool true)], args := [d1, d2, d3] }
  | _ => none }
def attrOrderRow : OpenClaim := { program := "ytnnlbofmlfafhaa", sum := "258c5ec850112061ccd031745531c6fd492bfbe252b4ee3e2e4f565c555218e6", func := "whirligig/whirligiglaw09.AttrOrder", spec := "attrOrder", inPlace := ["internal/abi.NoEscape", "internal/bytealg.MakeNoZero"], unfollowed := true, recurses := true, apart := false }
def AttrOrderSaid : Prop := attrOrderRow.holds Try.pinned (OpenSpec.ofChange attrOrderSpec)

/-- ITS FALSE NEIGHBOUR: 'it returns false'. Refute it at one input. -/
def attrOrderWrong : ChangeSpec := { name := "attrOrder", fn := fun _ => fun
  | [d1, d2, d3] => { results := [.lit (.bool false)], args := [d1, d2, d3] }
  | _ => none }
def AttrOrderWrongFalsely : Prop := attrOrderRow.holds Try.pinned (OpenSpec.ofChange attrOrderWrong)

/-- 'whirligiglaw09.AttrTexts': WHATEVER THE INPUT: true; the input reads as it did. -/
def attrTextsSpec : ChangeSpec := { name := "attrTexts", fn := fun _ => fun
  | [d1, d2] => { results := [.lit (.bool true)], args := [d1, d2] }
  | _ => none }
def attrTextsRow : OpenClaim := { program := "ytnnlbofmlfafhaa", sum := "258c5ec850112061ccd031745531c6fd492bfbe252b4ee3e2e4f565c555218e6", func := "whirligig/whirligiglaw09.AttrTexts", spec := "attrTexts", inPlace := ["internal/abi.NoEscape", "internal/bytealg.MakeNoZero"], unfollowed := true, recurses := true, apart := false }
def AttrTextsSaid : Prop := attrTextsRow.holds Try.pinned (OpenSpec.ofChange attrTextsSpec)

/-- ITS FALSE NEIGHBOUR: 'it returns false'. Refute it at one input. -/
def attrTextsWrong : ChangeSpec := { name := "attrTexts", fn := fun _ => fun
  | [d1, d2] => { results := [.lit (.bool false)], args := [d1, d2] }
  | _ => none }
def AttrTextsWrongFalsely : Prop := attrTextsRow.holds Try.pinned (OpenSpec.ofChange attrTextsWrong)

/-- 'whirligiglaw09.AttrDoes': WHATEVER THE INPUT: true; the input reads as it did. -/
def attrDoesSpec : ChangeSpec := { name := "attrDoes", fn := fun _ => fun
  | [d1, d2] => { results := [.lit (.bool true)], args := [d1, d2] }
  | _ => none }
def attrDoesRow : OpenClaim := { program := "ytnnlbofmlfafhaa", sum := "258c5ec850112061ccd031745531c6fd492bfbe252b4ee3e2e4f565c555218e6", func := "whirligig/whirligiglaw09.AttrDoes", spec := "attrDoes", inPlace := ["internal/abi.NoEscape", "internal/bytealg.MakeNoZero"], unfollowed := true, recurses := true, apart := false }
def AttrDoesSaid : Prop := attrDoesRow.holds Try.pinned (OpenSpec.ofChange attrDoesSpec)

/-- ITS FALSE NEIGHBOUR: 'it returns false'. Refute it at one input. -/
def attrDoesWrong : ChangeSpec := { name := "attrDoes", fn := fun _ => fun
  | [d1, d2] => { results := [.lit (.bool false)], args := [d1, d2] }
  | _ => none }
def AttrDoesWrongFalsely : Prop := attrDoesRow.holds Try.pinned (OpenSpec.ofChange attrDoesWrong)

/-- 'whirligiglaw09.AttrOwn': WHATEVER THE INPUT: true; the input reads as it did. -/
def attrOwnSpec : ChangeSpec := { name := "attrOwn", fn := fun _ => fun
  | [d1, d2] => { results := [.lit (.bool true)], args := [d1, d2] }
  | _ => none }
def attrOwnRow : OpenClaim := { program := "ytnnlbofmlfafhaa", sum := "258c5ec850112061ccd031745531c6fd492bfbe252b4ee3e2e4f565c555218e6", func := "whirligig/whirligiglaw09.AttrOwn", spec := "attrOwn", inPlace := ["internal/abi.NoEscape", "internal/bytealg.MakeNoZero"], unfollowed := true, recurses := true, apart := false }
def AttrOwnSaid : Prop := attrOwnRow.holds Try.pinned (OpenSpec.ofChange attrOwnSpec)

/-- ITS FALSE NEIGHBOUR: 'it returns false'. Refute it at one input. -/
def attrOwnWrong : ChangeSpec := { name := "attrOwn", fn := fun _ => fun
  | [d1, d2] => { results := [.lit (.bool false)], args := [d1, d2] }
  | _ => none }
def AttrOwnWrongFalsely : Prop := attrOwnRow.holds Try.pinned (OpenSpec.ofChange attrOwnWrong)

/-- 'whirligiglaw09.AttrTwice': WHATEVER THE INPUT: true; the input reads as it did. -/
def attrTwiceSpec : ChangeSpec := { name := "attrTwice", fn := fun _ => fun
  | [d1, d2] => { results := [.lit (.bool true)], args := [d1, d2] }
  | _ => none }
def attrTwiceRow : OpenClaim := { program := "ytnnlbofmlfafhaa", sum := "258c5ec850112061ccd031745531c6fd492bfbe252b4ee3e2e4f565c555218e6", func := "whirligig/whirligiglaw09.AttrTwice", spec := "attrTwice", inPlace := ["internal/abi.NoEscape", "internal/bytealg.MakeNoZero"], unfollowed := true, recurses := true, apart := false }
def AttrTwiceSaid : Prop := attrTwiceRow.holds Try.pinned (OpenSpec.ofChange attrTwiceSpec)

/-- ITS FALSE NEIGHBOUR: 'it returns false'. Refute it at one input. -/
def attrTwiceWrong : ChangeSpec := { name := "attrTwice", fn := fun _ => fun
  | [d1, d2] => { results := [.lit (.bool false)], args := [d1, d2] }
  | _ => none }
def AttrTwiceWrongFalsely : Prop := attrTwiceRow.holds Try.pinned (OpenSpec.ofChange attrTwiceWrong)

/- THE SECOND FORM. 'bulk': how many values and letters a reading holds, each counted each time it is reached (what is shared counts as often as it is met; a slice's spare places count too). A statement '..UptoSaid' is the law's where the arguments, and the package variables that the reading takes, are together of bulk at most 1048576: NARROWER than '..Said'. Prove '..Said' where nothing that the law and all that it calls make is longer than what came in: it says more and counts as full. Else prove '..UptoSaid'. A law counts once. -/
mutual
def uptoBulk {H : Type} : DataW H → Nat
  | .lit (.string bytes) => bytes.length + 1
  | .lit _ => 1
  | .nil => 1
  | .ptr d => uptoBulk d + 1
  | .slice elems spare => uptoBulkAll elems + uptoBulkAll spare + 1
  | .agg parts => uptoBulkAll parts + 1
  | .iface _ d => uptoBulk d + 1
  | .map entries => uptoBulkEntries entries + 1
  | .held _ => 1
def uptoBulkAll {H : Type} : List (DataW H) → Nat
  | [] => 0
  | d :: r => uptoBulk d + uptoBulkAll r
def uptoBulkEntries {H : Type} : List (Lit × DataW H) → Nat
  | [] => 0
  | x :: r => uptoBulkEntry x + uptoBulkEntries r
def uptoBulkEntry {H : Type} : Lit × DataW H → Nat
  | (.string bytes, d) => bytes.length + uptoBulk d + 1
  | (_, d) => uptoBulk d + 1
 end
def uptoSmall : (H : Type) → List (DataW H) → Bool := fun _ ds => decide (uptoBulkAll ds ≤ 1048576)
def OpenSpec.upto (s : _root_.Go.ChangeSpec) : _root_.Go.OpenSpec := { _root_.Go.OpenSpec.ofChange s with cond := some uptoSmall }

/-- 'whirligiglaw09.AttrSums', WHERE WHAT IT READS IS OF BULK AT MOST 1048576: true; the input reads as it did. -/
def attrSumsUptoRow : OpenClaim := { program := "ytnnlbofmlfafhaa", sum := "258c5ec850112061ccd031745531c6fd492bfbe252b4ee3e2e4f565c555218e6", func := "whirligig/whirligiglaw09.AttrSums", spec := "attrSums", inPlace := ["internal/abi.NoEscape", "internal/bytealg.MakeNoZero"], unfollowed := true, recurses := true, apart := false, narrowed := true }
def AttrSumsUptoSaid : Prop := attrSumsUptoRow.holds Try.pinned (OpenSpec.upto attrSumsSpec)

/-- 'whirligiglaw09.AttrOrder', WHERE WHAT IT READS IS OF BULK AT MOST 1048576: true; the input reads as it did. -/
def attrOrderUptoRow : OpenClaim := { program := "ytnnlbofmlfafhaa", sum := "258c5ec850112061ccd031745531c6fd492bfbe252b4ee3e2e4f565c555218e6", func := "whirligig/whirligiglaw09.AttrOrder", spec := "attrOrder", inPlace := ["internal/abi.NoEscape", "internal/bytealg.MakeNoZero"], unfollowed := true, recurses := true, apart := false, narrowed := true }
def AttrOrderUptoSaid : Prop := attrOrderUptoRow.holds Try.pinned (OpenSpec.upto attrOrderSpec)

/-- 'whirligiglaw09.AttrTexts', WHERE WHAT IT READS IS OF BULK AT MOST 1048576: true; the input reads as it did. -/
def attrTextsUptoRow : OpenClaim := { program := "ytnnlbofmlfafhaa", sum := "258c5ec850112061ccd031745531c6fd492bfbe252b4ee3e2e4f565c555218e6", func := "whirligig/whirligiglaw09.AttrTexts", spec := "attrTexts", inPlace := ["internal/abi.NoEscape", "internal/bytealg.MakeNoZero"], unfollowed := true, recurses := true, apart := false, narrowed := true }
def AttrTextsUptoSaid : Prop := attrTextsUptoRow.holds Try.pinned (OpenSpec.upto attrTextsSpec)

/-- 'whirligiglaw09.AttrDoes', WHERE WHAT IT READS IS OF BULK AT MOST 1048576: true; the input reads as it did. -/
def attrDoesUptoRow : OpenClaim := { program := "ytnnlbofmlfafhaa", sum := "258c5ec850112061ccd031745531c6fd492bfbe252b4ee3e2e4f565c555218e6", func := "whirligig/whirligiglaw09.AttrDoes", spec := "attrDoes", inPlace := ["internal/abi.NoEscape", "internal/bytealg.MakeNoZero"], unfollowed := true, recurses := true, apart := false, narrowed := true }
def AttrDoesUptoSaid : Prop := attrDoesUptoRow.holds Try.pinned (OpenSpec.upto attrDoesSpec)

/-- 'whirligiglaw09.AttrOwn', WHERE WHAT IT READS IS OF BULK AT MOST 1048576: true; the input reads as it did. -/
def attrOwnUptoRow : OpenClaim := { program := "ytnnlbofmlfafhaa", sum := "258c5ec850112061ccd031745531c6fd492bfbe252b4ee3e2e4f565c555218e6", func := "whirligig/whirligiglaw09.AttrOwn", spec := "attrOwn", inPlace := ["internal/abi.NoEscape", "internal/bytealg.MakeNoZero"], unfollowed := true, recurses := true, apart := false, narrowed := true }
def AttrOwnUptoSaid : Prop := attrOwnUptoRow.holds Try.pinned (OpenSpec.upto attrOwnSpec)

/-- 'whirligiglaw09.AttrTwice', WHERE WHAT IT READS IS OF BULK AT MOST 1048576: true; the input reads as it did. -/
def attrTwiceUptoRow : OpenClaim := { program := "ytnnlbofmlfafhaa", sum := "258c5ec850112061ccd031745531c6fd492bfbe252b4ee3e2e4f565c555218e6", func := "whirligig/whirligiglaw09.AttrTwice", spec := "attrTwice", inPlace := ["internal/abi.NoEscape", "internal/bytealg.MakeNoZero"], unfollowed := true, recurses := true, apart := false, narrowed := true }
def AttrTwiceUptoSaid : Prop := attrTwiceUptoRow.holds Try.pinned (OpenSpec.upto attrTwiceSpec)

end Rows
end Go.Proofs.Ytnnlbofmlfafhaa
