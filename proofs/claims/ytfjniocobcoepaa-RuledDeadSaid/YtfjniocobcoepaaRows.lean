/-
  No cell of these rows narrows 'for every input' (looked for: loops, veiled, ifaces, maps, wideKeys, modest, calm, conditions, laid).
  DERIVED. THE GIVEN ROWS OF THIS SEAT. 8 by the template 'for every input the law returns true; each argument reads behind the call as it read before'; 0 by the template 'total and deterministic' (their statements: YtfjniocobcoepaaTotals.lean).
  GIVEN WITH THE SEED: the statements are not yours to turn. If you find one false, say at which input.
  Laid BY PROGRAM, IN A SANDBOX (cutbox-rows.mjs): the forced cells as the released guide's own fill.sh prints them over the translation 0cca0864e5783cde… (all of the seat's roots in one cut). By AI agents, Wed Nov 11 2026. No macro, syntax, notation, axiom, sorry.
-/
import Derived.Test.YtfjniocobcoepaaChecked
import GoSem.Claim
import GoSem.ClaimJoined
import GoSem.ClaimMapViews
import Derived.JoinedTies
import Derived.KernelRfl
namespace Go.Proofs.Ytfjniocobcoepaa
/- THE CELL 'sum', in the pinned program and in every row, IS THE sha256 OF THE DUMP (.gsa) THAT YtfjniocobcoepaaProg.lean LOADS. Nothing in Lean hashes anything: it is a label: what it is worth is what the hold of that sum in a sandbox is worth. -/
noncomputable def Try.pinned : Pinned := { name := "ytfjniocobcoepaa", sum := "0cca0864e5783cdec9308e68fc1dc3628818fc6dfcc81238fa30a7d0fca3a183", checked := Try.checked }
namespace Rows
def none {H : Type} : Left H := { results := [], args := [] }

/-- 'patchbaykeep3.DiagramLaws': WHATEVER THE INPUT: true; the input reads as it did. -/
def diagramLawsSpec : ChangeSpec := { name := "diagramLaws", fn := fun _ => fun
  | [d1, d2, d3, d4, d5, d6] => { results := [.lit (.bool true)], args := [d1, d2, d3, d4, d5, d6] }
  | _ => none }
def diagramLawsRow : OpenClaim := { program := "ytfjniocobcoepaa", sum := "0cca0864e5783cdec9308e68fc1dc3628818fc6dfcc81238fa30a7d0fca3a183", func := "patchbay/patchbaykeep3.DiagramLaws", spec := "diagramLaws", recurses := true, plainKeys := false, apart := false }
def DiagramLawsSaid : Prop := diagramLawsRow.holds Try.pinned (OpenSpec.ofChange diagramLawsSpec)

/-- ITS FALSE NEIGHBOUR: 'it returns false'. Refute it at one input. -/
def diagramLawsWrong : ChangeSpec := { name := "diagramLaws", fn := fun _ => fun
  | [d1, d2, d3, d4, d5, d6] => { results := [.lit (.bool false)], args := [d1, d2, d3, d4, d5, d6] }
  | _ => none }
def DiagramLawsWrongFalsely : Prop := diagramLawsRow.holds Try.pinned (OpenSpec.ofChange diagramLawsWrong)

/-- 'patchbaykeep3.DiagramSplits': WHATEVER THE INPUT: true; the input reads as it did. -/
def diagramSplitsSpec : ChangeSpec := { name := "diagramSplits", fn := fun _ => fun
  | [d1, d2, d3, d4, d5, d6, d7] => { results := [.lit (.bool true)], args := [d1, d2, d3, d4, d5, d6, d7] }
  | _ => none }
def diagramSplitsRow : OpenClaim := { program := "ytfjniocobcoepaa", sum := "0cca0864e5783cdec9308e68fc1dc3628818fc6dfcc81238fa30a7d0fca3a183", func := "patchbay/patchbaykeep3.DiagramSplits", spec := "diagramSplits", recurses := true, plainKeys := false, apart := false }
def DiagramSplitsSaid : Prop := diagramSplitsRow.holds Try.pinned (OpenSpec.ofChange diagramSplitsSpec)

/-- ITS FALSE NEIGHBOUR: 'it returns false'. Refute it at one input. -/
def diagramSplitsWrong : ChangeSpec := { name := "diagramSplits", fn := fun _ => fun
  | [d1, d2, d3, d4, d5, d6, d7] => { results := [.lit (.bool false)], args := [d1, d2, d3, d4, d5, d6, d7] }
  | _ => none }
def DiagramSplitsWrongFalsely : Prop := diagramSplitsRow.holds Try.pinned (OpenSpec.ofChange diagramSplitsWrong)

/-- 'patchbaykeep3.DiagramReduced': WHATEVER THE INPUT: true; the input reads as it did. -/
def diagramReducedSpec : ChangeSpec := { name := "diagramReduced", fn := fun _ => fun
  | [d1, d2, d3, d4] => { results := [.lit (.bool true)], args := [d1, d2, d3, d4] }
  | _ => none }
def diagramReducedRow : OpenClaim := { program := "ytfjniocobcoepaa", sum := "0cca0864e5783cdec9308e68fc1dc3628818fc6dfcc81238fa30a7d0fca3a183", func := "patchbay/patchbaykeep3.DiagramReduced", spec := "diagramReduced", unfollowed := true, recurses := true, plainKeys := false, apart := false }
def DiagramReducedSaid : Prop := diagramReducedRow.holds Try.pinned (OpenSpec.ofChange diagramReducedSpec)

/-- ITS FALSE NEIGHBOUR: 'it returns false'. Refute it at one input. -/
def diagramReducedWrong : ChangeSpec := { name := "diagramReduced", fn := fun _ => fun
  | [d1, d2, d3, d4] => { results := [.lit (.bool false)], args := [d1, d2, d3, d4] }
  | _ => none }
def DiagramReducedWrongFalsely : Prop := diagramReducedRow.holds Try.pinned (OpenSpec.ofChange diagramReducedWrong)

/-- 'patchbaykeep3.DiagramFirst': WHATEVER THE INPUT: true; the input reads as it did. -/
def diagramFirstSpec : ChangeSpec := { name := "diagramFirst", fn := fun _ => fun
  | [d1, d2, d3, d4] => { results := [.lit (.bool true)], args := [d1, d2, d3, d4] }
  | _ => none }
def diagramFirstRow : OpenClaim := { program := "ytfjniocobcoepaa", sum := "0cca0864e5783cdec9308e68fc1dc3628818fc6dfcc81238fa30a7d0fca3a183", func := "patchbay/patchbaykeep3.DiagramFirst", spec := "diagramFirst", recurses := true, plainKeys := false, apart := false }
def DiagramFirstSaid : Prop := diagramFirstRow.holds Try.pinned (OpenSpec.ofChange diagramFirstSpec)

/-- ITS FALSE NEIGHBOUR: 'it returns false'. Refute it at one input. -/
def diagramFirstWrong : ChangeSpec := { name := "diagramFirst", fn := fun _ => fun
  | [d1, d2, d3, d4] => { results := [.lit (.bool false)], args := [d1, d2, d3, d4] }
  | _ => none }
def DiagramFirstWrongFalsely : Prop := diagramFirstRow.holds Try.pinned (OpenSpec.ofChange diagramFirstWrong)

/-- 'patchbaykeep3.RuledWitness': WHATEVER THE INPUT: true; the input reads as it did. -/
def ruledWitnessSpec : ChangeSpec := { name := "ruledWitness", fn := fun _ => fun
  | [d1, d2] => { results := [.lit (.bool true)], args := [d1, d2] }
  | _ => none }
def ruledWitnessRow : OpenClaim := { program := "ytfjniocobcoepaa", sum := "0cca0864e5783cdec9308e68fc1dc3628818fc6dfcc81238fa30a7d0fca3a183", func := "patchbay/patchbaykeep3.RuledWitness", spec := "ruledWitness", recurses := true, plainKeys := false, apart := false }
def RuledWitnessSaid : Prop := ruledWitnessRow.holds Try.pinned (OpenSpec.ofChange ruledWitnessSpec)

/-- ITS FALSE NEIGHBOUR: 'it returns false'. Refute it at one input. -/
def ruledWitnessWrong : ChangeSpec := { name := "ruledWitness", fn := fun _ => fun
  | [d1, d2] => { results := [.lit (.bool false)], args := [d1, d2] }
  | _ => none }
def RuledWitnessWrongFalsely : Prop := ruledWitnessRow.holds Try.pinned (OpenSpec.ofChange ruledWitnessWrong)

/-- 'patchbaykeep3.RuledSame': WHATEVER THE INPUT: true; the input reads as it did. -/
def ruledSameSpec : ChangeSpec := { name := "ruledSame", fn := fun _ => fun
  | [d1, d2] => { results := [.lit (.bool true)], args := [d1, d2] }
  | _ => none }
def ruledSameRow : OpenClaim := { program := "ytfjniocobcoepaa", sum := "0cca0864e5783cdec9308e68fc1dc3628818fc6dfcc81238fa30a7d0fca3a183", func := "patchbay/patchbaykeep3.RuledSame", spec := "ruledSame", recurses := true, plainKeys := false, apart := false }
def RuledSameSaid : Prop := ruledSameRow.holds Try.pinned (OpenSpec.ofChange ruledSameSpec)

/-- ITS FALSE NEIGHBOUR: 'it returns false'. Refute it at one input. -/
def ruledSameWrong : ChangeSpec := { name := "ruledSame", fn := fun _ => fun
  | [d1, d2] => { results := [.lit (.bool false)], args := [d1, d2] }
  | _ => none }
def RuledSameWrongFalsely : Prop := ruledSameRow.holds Try.pinned (OpenSpec.ofChange ruledSameWrong)

/-- 'patchbaykeep3.RuledAgrees': WHATEVER THE INPUT: true; the input reads as it did. -/
def ruledAgreesSpec : ChangeSpec := { name := "ruledAgrees", fn := fun _ => fun
  | [d1, d2, d3, d4] => { results := [.lit (.bool true)], args := [d1, d2, d3, d4] }
  | _ => none }
def ruledAgreesRow : OpenClaim := { program := "ytfjniocobcoepaa", sum := "0cca0864e5783cdec9308e68fc1dc3628818fc6dfcc81238fa30a7d0fca3a183", func := "patchbay/patchbaykeep3.RuledAgrees", spec := "ruledAgrees", recurses := true, plainKeys := false, apart := false }
def RuledAgreesSaid : Prop := ruledAgreesRow.holds Try.pinned (OpenSpec.ofChange ruledAgreesSpec)

/-- ITS FALSE NEIGHBOUR: 'it returns false'. Refute it at one input. -/
def ruledAgreesWrong : ChangeSpec := { name := "ruledAgrees", fn := fun _ => fun
  | [d1, d2, d3, d4] => { results := [.lit (.bool false)], args := [d1, d2, d3, d4] }
  | _ => none }
def RuledAgreesWrongFalsely : Prop := ruledAgreesRow.holds Try.pinned (OpenSpec.ofChange ruledAgreesWrong)

/-- 'patchbaykeep3.RuledDead': WHATEVER THE INPUT: true; the input reads as it did. -/
def ruledDeadSpec : ChangeSpec := { name := "ruledDead", fn := fun _ => fun
  | [d1, d2, d3] => { results := [.lit (.bool true)], args := [d1, d2, d3] }
  | _ => none }
def ruledDeadRow : OpenClaim := { program := "ytfjniocobcoepaa", sum := "0cca0864e5783cdec9308e68fc1dc3628818fc6dfcc81238fa30a7d0fca3a183", func := "patchbay/patchbaykeep3.RuledDead", spec := "ruledDead", recurses := true, plainKeys := false, apart := false }
def RuledDeadSaid : Prop := ruledDeadRow.holds Try.pinned (OpenSpec.ofChange ruledDeadSpec)

/-- ITS FALSE NEIGHBOUR: 'it returns false'. Refute it at one input. -/
def ruledDeadWrong : ChangeSpec := { name := "ruledDead", fn := fun _ => fun
  | [d1, d2, d3] => { results := [.lit (.bool false)], args := [d1, d2, d3] }
  | _ => none }
def RuledDeadWrongFalsely : Prop := ruledDeadRow.holds Try.pinned (OpenSpec.ofChange ruledDeadWrong)

/- THE SECOND FORM. 'bulk': how many values and letters a reading holds, each counted each time it is reached (what is shared counts as often as it is met; a slice's spare places count too). A statement '..UptoSaid' is the law's where the arguments, and the package variables that the reading takes, are together of bulk at most 1048576: NARROWER than '..Said'. Prove '..Said' where nothing that the law and all that it calls make is longer than what came in: it says more and counts as full. Else prove '..UptoSaid'. A law counts once. -/
mutual
def uptoBulk {H : Type} : DataW H → Nat
  | .lit (.string bytes) => bytes.length + 1
  | .lit _ => 1
  | .nil => 1
  | .ptr d => uptoBulk d + 1
  | .slice elems spare => uptoBulkAll elems + uptoBulkAll spare + 1
  | .agg parts => uptoBulkAll parts + 1
  | .iface _ d => uptoBulk d + 1
  | .map entries => uptoBulkEntries entries + 1
  | .held _ => 1
def uptoBulkAll {H : Type} : List (DataW H) → Nat
  | [] => 0
  | d :: r => uptoBulk d + uptoBulkAll r
def uptoBulkEntries {H : Type} : List (Lit × DataW H) → Nat
  | [] => 0
  | x :: r => uptoBulkEntry x + uptoBulkEntries r
def uptoBulkEntry {H : Type} : Lit × DataW H → Nat
  | (.string bytes, d) => bytes.length + uptoBulk d + 1
  | (_, d) => uptoBulk d + 1
 end
def uptoSmall : (H : Type) → List (DataW H) → Bool := fun _ ds => decide (uptoBulkAll ds ≤ 1048576)
def OpenSpec.upto (s : _root_.Go.ChangeSpec) : _root_.Go.OpenSpec := { _root_.Go.OpenSpec.ofChange s with cond := some uptoSmall }

/-- 'patchbaykeep3.DiagramLaws', WHERE WHAT IT READS IS OF BULK AT MOST 1048576: true; the input reads as it did. -/
def diagramLawsUptoRow : OpenClaim := { program := "ytfjniocobcoepaa", sum := "0cca0864e5783cdec9308e68fc1dc3628818fc6dfcc81238fa30a7d0fca3a183", func := "patchbay/patchbaykeep3.DiagramLaws", spec := "diagramLaws", recurses := true, plainKeys := false, apart := false, narrowed := true }
def DiagramLawsUptoSaid : Prop := diagramLawsUptoRow.holds Try.pinned (OpenSpec.upto diagramLawsSpec)

/-- 'patchbaykeep3.DiagramSplits', WHERE WHAT IT READS IS OF BULK AT MOST 1048576: true; the input reads as it did. -/
def diagramSplitsUptoRow : OpenClaim := { program := "ytfjniocobcoepaa", sum := "0cca0864e5783cdec9308e68fc1dc3628818fc6dfcc81238fa30a7d0fca3a183", func := "patchbay/patchbaykeep3.DiagramSplits", spec := "diagramSplits", recurses := true, plainKeys := false, apart := false, narrowed := true }
def DiagramSplitsUptoSaid : Prop := diagramSplitsUptoRow.holds Try.pinned (OpenSpec.upto diagramSplitsSpec)

/-- 'patchbaykeep3.DiagramReduced', WHERE WHAT IT READS IS OF BULK AT MOST 1048576: true; the input reads as it did. -/
def diagramReducedUptoRow : OpenClaim := { program := "ytfjniocobcoepaa", sum := "0cca0864e5783cdec9308e68fc1dc3628818fc6dfcc81238fa30a7d0fca3a183", func := "patchbay/patchbaykeep3.DiagramReduced", spec := "diagramReduced", unfollowed := true, recurses := true, plainKeys := false, apart := false, narrowed := true }
def DiagramReducedUptoSaid : Prop := diagramReducedUptoRow.holds Try.pinned (OpenSpec.upto diagramReducedSpec)

/-- 'patchbaykeep3.DiagramFirst', WHERE WHAT IT READS IS OF BULK AT MOST 1048576: true; the input reads as it did. -/
def diagramFirstUptoRow : OpenClaim := { program := "ytfjniocobcoepaa", sum := "0cca0864e5783cdec9308e68fc1dc3628818fc6dfcc81238fa30a7d0fca3a183", func := "patchbay/patchbaykeep3.DiagramFirst", spec := "diagramFirst", recurses := true, plainKeys := false, apart := false, narrowed := true }
def DiagramFirstUptoSaid : Prop := diagramFirstUptoRow.holds Try.pinned (OpenSpec.upto diagramFirstSpec)

/-- 'patchbaykeep3.RuledWitness', WHERE WHAT IT READS IS OF BULK AT MOST 1048576: true; the input reads as it did. -/
def ruledWitnessUptoRow : OpenClaim := { program := "ytfjniocobcoepaa", sum := "0cca0864e5783cdec9308e68fc1dc3628818fc6dfcc81238fa30a7d0fca3a183", func := "patchbay/patchbaykeep3.RuledWitness", spec := "ruledWitness", recurses := true, plainKeys := false, apart := false, narrowed := true }
def RuledWitnessUptoSaid : Prop := ruledWitnessUptoRow.holds Try.pinned (OpenSpec.upto ruledWitnessSpec)

/-- 'patchbaykeep3.RuledSame', WHERE WHAT IT READS IS OF BULK AT MOST 1048576: true; the input reads as it did. -/
def ruledSameUptoRow : OpenClaim := { program := "ytfjniocobcoepaa", sum := "0cca0864e5783cdec9308e68fc1dc3628818fc6dfcc81238fa30a7d0fca3a183", func := "patchbay/patchbaykeep3.RuledSame", spec := "ruledSame", recurses := true, plainKeys := false, apart := false, narrowed := true }
def RuledSameUptoSaid : Prop := ruledSameUptoRow.holds Try.pinned (OpenSpec.upto ruledSameSpec)

/-- 'patchbaykeep3.RuledAgrees', WHERE WHAT IT READS IS OF BULK AT MOST 1048576: true; the input reads as it did. -/
def ruledAgreesUptoRow : OpenClaim := { program := "ytfjniocobcoepaa", sum := "0cca0864e5783cdec9308e68fc1dc3628818fc6dfcc81238fa30a7d0fca3a183", func := "patchbay/patchbaykeep3.RuledAgrees", spec := "ruledAgrees", recurses := true, plainKeys := false, apart := false, narrowed := true }
def RuledAgreesUptoSaid : Prop := ruledAgreesUptoRow.holds Try.pinned (OpenSpec.upto ruledAgreesSpec)

/-- 'patchbaykeep3.RuledDead', WHERE WHAT IT READS IS OF BULK AT MOST 1048576: true; the input reads as it did. -/
def ruledDeadUptoRow : OpenClaim := { program := "ytfjniocobcoepaa", sum := "0cca0864e5783cdec9308e68fc1dc3628818fc6dfcc81238fa30a7d0fca3a183", func := "patchbay/patchbaykeep3.RuledDead", spec := "ruledDead", recurses := true, plainKeys := false, apart := false, narrowed := true }
def RuledDeadUptoSaid : Prop := ruledDeadUptoRow.holds Try.pinned (OpenSpec.upto ruledDeadSpec)

end Rows
end Go.Proofs.Ytfjniocobcoepaa
