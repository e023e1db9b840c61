/-
  No cell of these rows narrows 'for every input' (looked for: loops, veiled, ifaces, maps, wideKeys, modest, calm, conditions, laid).
  DERIVED. THE GIVEN ROWS OF THIS SEAT. 6 by the template 'for every input the law returns true; each argument reads behind the call as it read before'; 0 by the template 'total and deterministic' (their statements: YtnihacajjpcjeaaTotals.lean).
  GIVEN WITH THE SEED: the statements are not yours to turn. If you find one false, say at which input.
  Laid BY PROGRAM, IN A SANDBOX (cutbox-rows.mjs): the forced cells as the released guide's own fill.sh prints them over the translation 8b66d331e68c1bf1… (all of the seat's roots in one cut). By AI agents, Wed Nov 11 2026. No macro, syntax, notation, axiom, sorry.
-/
import Derived.Test.YtnihacajjpcjeaaChecked
import GoSem.Claim
import GoSem.ClaimJoined
import GoSem.ClaimMapViews
import Derived.JoinedTies
import Derived.KernelRfl
namespace Go.Proofs.Ytnihacajjpcjeaa
/- THE CELL 'sum', in the pinned program and in every row, IS THE sha256 OF THE DUMP (.gsa) THAT YtnihacajjpcjeaaProg.lean LOADS. Nothing in Lean hashes anything: it is a label: what it is worth is what the hold of that sum in a sandbox is worth. -/
noncomputable def Try.pinned : Pinned := { name := "ytnihacajjpcjeaa", sum := "8b66d331e68c1bf1a17f556cdb63d2efa09b8009abdef423c12217d1f618bc8a", checked := Try.checked }
namespace Rows
def none {H : Type} : Left H := { results := [], args := [] }

/-- 'whirligiglaw06.TrieFolds': WHATEVER THE INPUT: true; the input reads as it did. -/
def trieFoldsSpec : ChangeSpec := { name := "trieFolds", fn := fun _ => fun
  | [d] => { results := [.lit (.bool true)], args := [d] }
  | _ => none }
def trieFoldsRow : OpenClaim := { program := "ytnihacajjpcjeaa", sum := "8b66d331e68c1bf1a17f556cdb63d2efa09b8009abdef423c12217d1f618bc8a", func := "whirligig/whirligiglaw06.TrieFolds", spec := "trieFolds", unfollowed := true, recurses := true, apart := false }
def TrieFoldsSaid : Prop := trieFoldsRow.holds Try.pinned (OpenSpec.ofChange trieFoldsSpec)

/-- ITS FALSE NEIGHBOUR: 'it returns false'. Refute it at one input. -/
def trieFoldsWrong : ChangeSpec := { name := "trieFolds", fn := fun _ => fun
  | [d] => { results := [.lit (.bool false)], args := [d] }
  | _ => none }
def TrieFoldsWrongFalsely : Prop := trieFoldsRow.holds Try.pinned (OpenSpec.ofChange trieFoldsWrong)

/-- 'whirligiglaw06.TrieCounts': WHATEVER THE INPUT: true; the input reads as it did. -/
def trieCountsSpec : ChangeSpec := { name := "trieCounts", fn := fun _ => fun
  | [d] => { results := [.lit (.bool true)], args := [d] }
  | _ => none }
def trieCountsRow : OpenClaim := { program := "ytnihacajjpcjeaa", sum := "8b66d331e68c1bf1a17f556cdb63d2efa09b8009abdef423c12217d1f618bc8a", func := "whirligig/whirligiglaw06.TrieCounts", spec := "trieCounts", unfollowed := true, recurses := true, apart := false }
def TrieCountsSaid : Prop := trieCountsRow.holds Try.pinned (OpenSpec.ofChange trieCountsSpec)

/-- ITS FALSE NEIGHBOUR: 'it returns false'. Refute it at one input. -/
def trieCountsWrong : ChangeSpec := { name := "trieCounts", fn := fun _ => fun
  | [d] => { results := [.lit (.bool false)], args := [d] }
  | _ => none }
def TrieCountsWrongFalsely : Prop := trieCountsRow.holds Try.pinned (OpenSpec.ofChange trieCountsWrong)

/-- 'whirligiglaw06.TrieLast': WHATEVER THE INPUT: true; the input reads as it did. -/
def trieLastSpec : ChangeSpec := { name := "trieLast", fn := fun _ => fun
  | [d1, d2] => { results := [.lit (.bool true)], args := [d1, d2] }
  | _ => none }
def trieLastRow : OpenClaim := { program := "ytnihacajjpcjeaa", sum := "8b66d331e68c1bf1a17f556cdb63d2efa09b8009abdef423c12217d1f618bc8a", func := "whirligig/whirligiglaw06.TrieLast", spec := "trieLast", recurses := true, apart := false }
def TrieLastSaid : Prop := trieLastRow.holds Try.pinned (OpenSpec.ofChange trieLastSpec)

/-- ITS FALSE NEIGHBOUR: 'it returns false'. Refute it at one input. -/
def trieLastWrong : ChangeSpec := { name := "trieLast", fn := fun _ => fun
  | [d1, d2] => { results := [.lit (.bool false)], args := [d1, d2] }
  | _ => none }
def TrieLastWrongFalsely : Prop := trieLastRow.holds Try.pinned (OpenSpec.ofChange trieLastWrong)

/-- 'whirligiglaw06.TrieParts': WHATEVER THE INPUT: true; the input reads as it did. -/
def triePartsSpec : ChangeSpec := { name := "trieParts", fn := fun _ => fun
  | [d1, d2, d3] => { results := [.lit (.bool true)], args := [d1, d2, d3] }
  | _ => none }
def triePartsRow : OpenClaim := { program := "ytnihacajjpcjeaa", sum := "8b66d331e68c1bf1a17f556cdb63d2efa09b8009abdef423c12217d1f618bc8a", func := "whirligig/whirligiglaw06.TrieParts", spec := "trieParts", unfollowed := true, recurses := true, apart := false }
def TriePartsSaid : Prop := triePartsRow.holds Try.pinned (OpenSpec.ofChange triePartsSpec)

/-- ITS FALSE NEIGHBOUR: 'it returns false'. Refute it at one input. -/
def triePartsWrong : ChangeSpec := { name := "trieParts", fn := fun _ => fun
  | [d1, d2, d3] => { results := [.lit (.bool false)], args := [d1, d2, d3] }
  | _ => none }
def TriePartsWrongFalsely : Prop := triePartsRow.holds Try.pinned (OpenSpec.ofChange triePartsWrong)

/-- 'whirligiglaw06.TriePlays': WHATEVER THE INPUT: true; the input reads as it did. -/
def triePlaysSpec : ChangeSpec := { name := "triePlays", fn := fun _ => fun
  | [d] => { results := [.lit (.bool true)], args := [d] }
  | _ => none }
def triePlaysRow : OpenClaim := { program := "ytnihacajjpcjeaa", sum := "8b66d331e68c1bf1a17f556cdb63d2efa09b8009abdef423c12217d1f618bc8a", func := "whirligig/whirligiglaw06.TriePlays", spec := "triePlays", unfollowed := true, recurses := true, apart := false }
def TriePlaysSaid : Prop := triePlaysRow.holds Try.pinned (OpenSpec.ofChange triePlaysSpec)

/-- ITS FALSE NEIGHBOUR: 'it returns false'. Refute it at one input. -/
def triePlaysWrong : ChangeSpec := { name := "triePlays", fn := fun _ => fun
  | [d] => { results := [.lit (.bool false)], args := [d] }
  | _ => none }
def TriePlaysWrongFalsely : Prop := triePlaysRow.holds Try.pinned (OpenSpec.ofChange triePlaysWrong)

/-- 'whirligiglaw06.TrieNils': WHATEVER THE INPUT: true; the input reads as it did. -/
def trieNilsSpec : ChangeSpec := { name := "trieNils", fn := fun _ => fun
  | [d] => { results := [.lit (.bool true)], args := [d] }
  | _ => none }
def trieNilsRow : OpenClaim := { program := "ytnihacajjpcjeaa", sum := "8b66d331e68c1bf1a17f556cdb63d2efa09b8009abdef423c12217d1f618bc8a", func := "whirligig/whirligiglaw06.TrieNils", spec := "trieNils", unfollowed := true, recurses := true, apart := false }
def TrieNilsSaid : Prop := trieNilsRow.holds Try.pinned (OpenSpec.ofChange trieNilsSpec)

/-- ITS FALSE NEIGHBOUR: 'it returns false'. Refute it at one input. -/
def trieNilsWrong : ChangeSpec := { name := "trieNils", fn := fun _ => fun
  | [d] => { results := [.lit (.bool false)], args := [d] }
  | _ => none }
def TrieNilsWrongFalsely : Prop := trieNilsRow.holds Try.pinned (OpenSpec.ofChange trieNilsWrong)

/- THE SECOND FORM. 'bulk': how many values and letters a reading holds, each counted each time it is reached (what is shared counts as often as it is met; a slice's spare places count too). A statement '..UptoSaid' is the law's where the arguments, and the package variables that the reading takes, are together of bulk at most 1048576: NARROWER than '..Said'. Prove '..Said' where nothing that the law and all that it calls make is longer than what came in: it says more and counts as full. Else prove '..UptoSaid'. A law counts once. -/
mutual
def uptoBulk {H : Type} : DataW H → Nat
  | .lit (.string bytes) => bytes.length + 1
  | .lit _ => 1
  | .nil => 1
  | .ptr d => uptoBulk d + 1
  | .slice elems spare => uptoBulkAll elems + uptoBulkAll spare + 1
  | .agg parts => uptoBulkAll parts + 1
  | .iface _ d => uptoBulk d + 1
  | .map entries => uptoBulkEntries entries + 1
  | .held _ => 1
def uptoBulkAll {H : Type} : List (DataW H) → Nat
  | [] => 0
  | d :: r => uptoBulk d + uptoBulkAll r
def uptoBulkEntries {H : Type} : List (Lit × DataW H) → Nat
  | [] => 0
  | x :: r => uptoBulkEntry x + uptoBulkEntries r
def uptoBulkEntry {H : Type} : Lit × DataW H → Nat
  | (.string bytes, d) => bytes.length + uptoBulk d + 1
  | (_, d) => uptoBulk d + 1
 end
def uptoSmall : (H : Type) → List (DataW H) → Bool := fun _ ds => decide (uptoBulkAll ds ≤ 1048576)
def OpenSpec.upto (s : _root_.Go.ChangeSpec) : _root_.Go.OpenSpec := { _root_.Go.OpenSpec.ofChange s with cond := some uptoSmall }

/-- 'whirligiglaw06.TrieFolds', WHERE WHAT IT READS IS OF BULK AT MOST 1048576: true; the input reads as it did. -/
def trieFoldsUptoRow : OpenClaim := { program := "ytnihacajjpcjeaa", sum := "8b66d331e68c1bf1a17f556cdb63d2efa09b8009abdef423c12217d1f618bc8a", func := "whirligig/whirligiglaw06.TrieFolds", spec := "trieFolds", unfollowed := true, recurses := true, apart := false, narrowed := true }
def TrieFoldsUptoSaid : Prop := trieFoldsUptoRow.holds Try.pinned (OpenSpec.upto trieFoldsSpec)

/-- 'whirligiglaw06.TrieCounts', WHERE WHAT IT READS IS OF BULK AT MOST 1048576: true; the input reads as it did. -/
def trieCountsUptoRow : OpenClaim := { program := "ytnihacajjpcjeaa", sum := "8b66d331e68c1bf1a17f556cdb63d2efa09b8009abdef423c12217d1f618bc8a", func := "whirligig/whirligiglaw06.TrieCounts", spec := "trieCounts", unfollowed := true, recurses := true, apart := false, narrowed := true }
def TrieCountsUptoSaid : Prop := trieCountsUptoRow.holds Try.pinned (OpenSpec.upto trieCountsSpec)

/-- 'whirligiglaw06.TrieLast', WHERE WHAT IT READS IS OF BULK AT MOST 1048576: true; the input reads as it did. -/
def trieLastUptoRow : OpenClaim := { program := "ytnihacajjpcjeaa", sum := "8b66d331e68c1bf1a17f556cdb63d2efa09b8009abdef423c12217d1f618bc8a", func := "whirligig/whirligiglaw06.TrieLast", spec := "trieLast", recurses := true, apart := false, narrowed := true }
def TrieLastUptoSaid : Prop := trieLastUptoRow.holds Try.pinned (OpenSpec.upto trieLastSpec)

/-- 'whirligiglaw06.TrieParts', WHERE WHAT IT READS IS OF BULK AT MOST 1048576: true; the input reads as it did. -/
def triePartsUptoRow : OpenClaim := { program := "ytnihacajjpcjeaa", sum := "8b66d331e68c1bf1a17f556cdb63d2efa09b8009abdef423c12217d1f618bc8a", func := "whirligig/whirligiglaw06.TrieParts", spec := "trieParts", unfollowed := true, recurses := true, apart := false, narrowed := true }
def TriePartsUptoSaid : Prop := triePartsUptoRow.holds Try.pinned (OpenSpec.upto triePartsSpec)

/-- 'whirligiglaw06.TriePlays', WHERE WHAT IT READS IS OF BULK AT MOST 1048576: true; the input reads as it did. -/
def triePlaysUptoRow : OpenClaim := { program := "ytnihacajjpcjeaa", sum := "8b66d331e68c1bf1a17f556cdb63d2efa09b8009abdef423c12217d1f618bc8a", func := "whirligig/whirligiglaw06.TriePlays", spec := "triePlays", unfollowed := true, recurses := true, apart := false, narrowed := true }
def TriePlaysUptoSaid : Prop := triePlaysUptoRow.holds Try.pinned (OpenSpec.upto triePlaysSpec)

/-- 'whirligiglaw06.TrieNils', WHERE WHAT IT READS IS OF BULK AT MOST 1048576: true; the input reads as it did. -/
def trieNilsUptoRow : OpenClaim := { program := "ytnihacajjpcjeaa", sum := "8b66d331e68c1bf1a17f556cdb63d2efa09b8009abdef423c12217d1f618bc8a", func := "whirligig/whirligiglaw06.TrieNils", spec := "trieNils", unfollowed := true, recurses := true, apart := false, narrowed := true }
def TrieNilsUptoSaid : Prop := trieNilsUptoRow.holds Try.pinned (OpenSpec.upto trieNilsSpec)

end Rows
end Go.Proofs.Ytnihacajjpcjeaa
