/-
  No cell of these rows narrows 'for every input' (looked for: loops, veiled, ifaces, maps, wideKeys, modest, calm, conditions, laid).
  DERIVED. THE GIVEN ROWS OF THIS SEAT. 5 by the template 'for every input the law returns true; each argument reads behind the call as it read before'; 0 by the template 'total and deterministic' (their statements: YtckffheolnmcnaaTotals.lean).
  GIVEN WITH THE SEED: the statements are not yours to turn. If you find one false, say at which input.
  Laid BY PROGRAM, IN A SANDBOX (cutbox-rows.mjs): the forced cells as the released guide's own fill.sh prints them over the translation 91aa3650dbeb3164… (all of the seat's roots in one cut). By AI agents, Wed Nov 11 2026. No macro, syntax, notation, axiom, sorry.
-/
import Derived.Test.YtckffheolnmcnaaChecked
import GoSem.Claim
import GoSem.ClaimJoined
import GoSem.ClaimMapViews
import Derived.JoinedTies
import Derived.KernelRfl
namespace Go.Proofs.Ytckffheolnmcnaa
/- THE CELL 'sum', in the pinned program and in every row, IS THE sha256 OF THE DUMP (.gsa) THAT YtckffheolnmcnaaProg.lean LOADS. Nothing in Lean hashes anything: it is a label: what it is worth is what the hold of that sum in a sandbox is worth. -/
noncomputable def Try.pinned : Pinned := { name := "ytckffheolnmcnaa", sum := "91aa3650dbeb3164b8374ae3913bbed57fc598843c25ead7e58bd4c1311ffa7b", checked := Try.checked }
namespace Rows
def none {H : Type} : Left H := { results := [], args := [] }

/-- 'whirligiglaw01.AddrPlain': WHATEVER THE INPUT: true; the input reads as it did. -/
def addrPlainSpec : ChangeSpec := { name := "addrPlain", fn := fun _ => fun
  | [d1, d2] => { results := [.lit (.bool true)], args := [d1, d2] }
  | _ => none }
def addrPlainRow : OpenClaim := { program := "ytckffheolnmcnaa", sum := "91aa3650dbeb3164b8374ae3913bbed57fc598843c25ead7e58bd4c1311ffa7b", func := "whirligig/whirligiglaw01.AddrPlain", spec := "addrPlain", inPlace := ["internal/abi.NoEscape", "internal/bytealg.MakeNoZero"], unfollowed := true, recurses := true, apart := false }
def AddrPlainSaid : Prop := addrPlainRow.holds Try.pinned (OpenSpec.ofChange addrPlainSpec)

/-- ITS FALSE NEIGHBOUR: 'it returns false'. Refute it at one input. -/
def addrPlainWrong : ChangeSpec := { name := "addrPlain", fn := fun _ => fun
  | [d1, d2] => { results := [.lit (.bool false)], args := [d1, d2] }
  | _ => none }
def AddrPlainWrongFalsely : Prop := addrPlainRow.holds Try.pinned (OpenSpec.ofChange addrPlainWrong)

/-- 'whirligiglaw01.AddrHas': WHATEVER THE INPUT: true; the input reads as it did. -/
def addrHasSpec : ChangeSpec := { name := "addrHas", fn := fun _ => fun
  | [d1, d2, d3] => { results := [.lit (.bool true)], args := [d1, d2, d3] }
  | _ => none }
def addrHasRow : OpenClaim := { program := "ytckffheolnmcnaa", sum := "91aa3650dbeb3164b8374ae3913bbed57fc598843c25ead7e58bd4c1311ffa7b", func := "whirligig/whirligiglaw01.AddrHas", spec := "addrHas", inPlace := ["internal/abi.NoEscape", "internal/bytealg.MakeNoZero"], unfollowed := true, recurses := true, apart := false }
def AddrHasSaid : Prop := addrHasRow.holds Try.pinned (OpenSpec.ofChange addrHasSpec)

/-- ITS FALSE NEIGHBOUR: 'it returns false'. Refute it at one input. -/
def addrHasWrong : ChangeSpec := { name := "addrHas", fn := fun _ => fun
  | [d1, d2, d3] => { results := [.lit (.bool false)], args := [d1, d2, d3] }
  | _ => none }
def AddrHasWrongFalsely : Prop := addrHasRow.holds Try.pinned (OpenSpec.ofChange addrHasWrong)

/-- 'whirligiglaw01.AddrAbove': WHATEVER THE INPUT: true; the input reads as it did. -/
def addrAboveSpec : ChangeSpec := { name := "addrAbove", fn := fun _ => fun
  | [d1, d2] => { results := [.lit (.bool true)], args := [d1, d2] }
  | _ => none }
def addrAboveRow : OpenClaim := { program := "ytckffheolnmcnaa", sum := "91aa3650dbeb3164b8374ae3913bbed57fc598843c25ead7e58bd4c1311ffa7b", func := "whirligig/whirligiglaw01.AddrAbove", spec := "addrAbove", inPlace := ["internal/abi.NoEscape", "internal/bytealg.MakeNoZero"], unfollowed := true, recurses := true, apart := false }
def AddrAboveSaid : Prop := addrAboveRow.holds Try.pinned (OpenSpec.ofChange addrAboveSpec)

/-- ITS FALSE NEIGHBOUR: 'it returns false'. Refute it at one input. -/
def addrAboveWrong : ChangeSpec := { name := "addrAbove", fn := fun _ => fun
  | [d1, d2] => { results := [.lit (.bool false)], args := [d1, d2] }
  | _ => none }
def AddrAboveWrongFalsely : Prop := addrAboveRow.holds Try.pinned (OpenSpec.ofChange addrAboveWrong)

/-- 'whirligiglaw01.AddrHalves': WHATEVER THE INPUT: true; the input reads as it did. -/
def addrHalvesSpec : ChangeSpec := { name := "addrHalves", fn := fun _ => fun
  | [d1, d2] => { results := [.lit (.bool true)], args := [d1, d2] }
  | _ => none }
def addrHalvesRow : OpenClaim := { program := "ytckffheolnmcnaa", sum := "91aa3650dbeb3164b8374ae3913bbed57fc598843c25ead7e58bd4c1311ffa7b", func := "whirligig/whirligiglaw01.AddrHalves", spec := "addrHalves", inPlace := ["internal/abi.NoEscape", "internal/bytealg.MakeNoZero"], unfollowed := true, recurses := true, apart := false }
def AddrHalvesSaid : Prop := addrHalvesRow.holds Try.pinned (OpenSpec.ofChange addrHalvesSpec)

/-- ITS FALSE NEIGHBOUR: 'it returns false'. Refute it at one input. -/
def addrHalvesWrong : ChangeSpec := { name := "addrHalves", fn := fun _ => fun
  | [d1, d2] => { results := [.lit (.bool false)], args := [d1, d2] }
  | _ => none }
def AddrHalvesWrongFalsely : Prop := addrHalvesRow.holds Try.pinned (OpenSpec.ofChange addrHalvesWrong)

/-- 'whirligiglaw01.AddrMinus': WHATEVER THE INPUT: true; the input reads as it did. -/
def addrMinusSpec : ChangeSpec := { name := "addrMinus", fn := fun _ => fun
  | [d1, d2, d3] => { results := [.lit (.bool true)], args := [d1, d2, d3] }
  | _ => none }
def addrMinusRow : OpenClaim := { program := "ytckffheolnmcnaa", sum := "91aa3650dbeb3164b8374ae3913bbed57fc598843c25ead7e58bd4c1311ffa7b", func := "whirligig/whirligiglaw01.AddrMinus", spec := "addrMinus", inPlace := ["internal/abi.NoEscape", "internal/bytealg.MakeNoZero"], unfollowed := true, recurses := true, apart := false }
def AddrMinusSaid : Prop := addrMinusRow.holds Try.pinned (OpenSpec.ofChange addrMinusSpec)

/-- ITS FALSE NEIGHBOUR: 'it returns false'. Refute it at one input. -/
def addrMinusWrong : ChangeSpec := { name := "addrMinus", fn := fun _ => fun
  | [d1, d2, d3] => { results := [.lit (.bool false)], args := [d1, d2, d3] }
  | _ => none }
def AddrMinusWrongFalsely : Prop := addrMinusRow.holds Try.pinned (OpenSpec.ofChange addrMinusWrong)

/- THE SECOND FORM. 'bulk': how many values and letters a reading holds, each counted each time it is reached (what is shared counts as often as it is met; a slice's spare places count too). A statement '..UptoSaid' is the law's where the arguments, and the package variables that the reading takes, are together of bulk at most 1048576: NARROWER than '..Said'. Prove '..Said' where nothing that the law and all that it calls make is longer than what came in: it says more and counts as full. Else prove '..UptoSaid'. A law counts once. -/
mutual
def uptoBulk {H : Type} : DataW H → Nat
  | .lit (.string bytes) => bytes.length + 1
  | .lit _ => 1
  | .nil => 1
  | .ptr d => uptoBulk d + 1
  | .slice elems spare => uptoBulkAll elems + uptoBulkAll spare + 1
  | .agg parts => uptoBulkAll parts + 1
  | .iface _ d => uptoBulk d + 1
  | .map entries => uptoBulkEntries entries + 1
  | .held _ => 1
def uptoBulkAll {H : Type} : List (DataW H) → Nat
  | [] => 0
  | d :: r => uptoBulk d + uptoBulkAll r
def uptoBulkEntries {H : Type} : List (Lit × DataW H) → Nat
  | [] => 0
  | x :: r => uptoBulkEntry x + uptoBulkEntries r
def uptoBulkEntry {H : Type} : Lit × DataW H → Nat
  | (.string bytes, d) => bytes.length + uptoBulk d + 1
  | (_, d) => uptoBulk d + 1
 end
def uptoSmall : (H : Type) → List (DataW H) → Bool := fun _ ds => decide (uptoBulkAll ds ≤ 1048576)
def OpenSpec.upto (s : _root_.Go.ChangeSpec) : _root_.Go.OpenSpec := { _root_.Go.OpenSpec.ofChange s with cond := some uptoSmall }

/-- 'whirligiglaw01.AddrPlain', WHERE WHAT IT READS IS OF BULK AT MOST 1048576: true; the input reads as it did. -/
def addrPlainUptoRow : OpenClaim := { program := "ytckffheolnmcnaa", sum := "91aa3650dbeb3164b8374ae3913bbed57fc598843c25ead7e58bd4c1311ffa7b", func := "whirligig/whirligiglaw01.AddrPlain", spec := "addrPlain", inPlace := ["internal/abi.NoEscape", "internal/bytealg.MakeNoZero"], unfollowed := true, recurses := true, apart := false, narrowed := true }
def AddrPlainUptoSaid : Prop := addrPlainUptoRow.holds Try.pinned (OpenSpec.upto addrPlainSpec)

/-- 'whirligiglaw01.AddrHas', WHERE WHAT IT READS IS OF BULK AT MOST 1048576: true; the input reads as it did. -/
def addrHasUptoRow : OpenClaim := { program := "ytckffheolnmcnaa", sum := "91aa3650dbeb3164b8374ae3913bbed57fc598843c25ead7e58bd4c1311ffa7b", func := "whirligig/whirligiglaw01.AddrHas", spec := "addrHas", inPlace := ["internal/abi.NoEscape", "internal/bytealg.MakeNoZero"], unfollowed := true, recurses := true, apart := false, narrowed := true }
def AddrHasUptoSaid : Prop := addrHasUptoRow.holds Try.pinned (OpenSpec.upto addrHasSpec)

/-- 'whirligiglaw01.AddrAbove', WHERE WHAT IT READS IS OF BULK AT MOST 1048576: true; the input reads as it did. -/
def addrAboveUptoRow : OpenClaim := { program := "ytckffheolnmcnaa", sum := "91aa3650dbeb3164b8374ae3913bbed57fc598843c25ead7e58bd4c1311ffa7b", func := "whirligig/whirligiglaw01.AddrAbove", spec := "addrAbove", inPlace := ["internal/abi.NoEscape", "internal/bytealg.MakeNoZero"], unfollowed := true, recurses := true, apart := false, narrowed := true }
def AddrAboveUptoSaid : Prop := addrAboveUptoRow.holds Try.pinned (OpenSpec.upto addrAboveSpec)

/-- 'whirligiglaw01.AddrHalves', WHERE WHAT IT READS IS OF BULK AT MOST 1048576: true; the input reads as it did. -/
def addrHalvesUptoRow : OpenClaim := { program := "ytckffheolnmcnaa", sum := "91aa3650dbeb3164b8374ae3913bbed57fc598843c25ead7e58bd4c1311ffa7b", func := "whirligig/whirligiglaw01.AddrHalves", spec := "addrHalves", inPlace := ["internal/abi.NoEscape", "internal/bytealg.MakeNoZero"], unfollowed := true, recurses := true, apart := false, narrowed := true }
def AddrHalvesUptoSaid : Prop := addrHalvesUptoRow.holds Try.pinned (OpenSpec.upto addrHalvesSpec)

/-- 'whirligiglaw01.AddrMinus', WHERE WHAT IT READS IS OF BULK AT MOST 1048576: true; the input reads as it did. -/
def addrMinusUptoRow : OpenClaim := { program := "ytckffheolnmcnaa", sum := "91aa3650dbeb3164b8374ae3913bbed57fc598843c25ead7e58bd4c1311ffa7b", func := "whirligig/whirligiglaw01.AddrMinus", spec := "addrMinus", inPlace := ["internal/abi.NoEscape", "internal/bytealg.MakeNoZero"], unfollowed := true, recurses := true, apart := false, narrowed := true }
def AddrMinusUptoSaid : Prop := addrMinusUptoRow.holds Try.pinned (OpenSpec.upto addrMinusSpec)

end Rows
end Go.Proofs.Ytckffheolnmcnaa
