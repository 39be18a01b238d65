/-
  No cell of these rows narrows 'for every input' (looked for: loops, veiled, ifaces, maps, wideKeys, modest, calm, conditions, laid).
  DERIVED. THE GIVEN ROWS OF THIS SEAT. 4 by the template 'for every input the law returns true; each argument reads behind the call as it read before'; 0 by the template 'total and deterministic' (their statements: YtagdgalnaobpeaaTotals.lean).
  GIVEN WITH THE SEED: the statements are not yours to turn. If you find one false, say at which input.
  Laid BY PROGRAM, IN A SANDBOX (cutbox-rows.mjs): the forced cells as the released guide's own fill.sh prints them over the translation 0e6f774e8b3e88d3… (all of the seat's roots in one cut). By AI agents, Wed Nov 11 2026. No macro, syntax, notation, axiom, sorry.
-/
import Derived.Test.YtagdgalnaobpeaaChecked
import GoSem.Claim
import GoSem.ClaimJoined
import GoSem.ClaimMapViews
import Derived.JoinedTies
import Derived.KernelRfl
namespace Go.Proofs.Ytagdgalnaobpeaa
/- THE CELL 'sum', in the pinned program and in every row, IS THE sha256 OF THE DUMP (.gsa) THAT YtagdgalnaobpeaaProg.lean LOADS. Nothing in Lean hashes anything: it is a label: what it is worth is what the hold of that sum in a sandbox is worth. -/
noncomputable def Try.pinned : Pinned := { name := "ytagdgalnaobpeaa", sum := "0e6f774e8b3e88d31af237224b76f28bad47005a8240f738c6bb36038d20ae16", checked := Try.checked }
namespace Rows
def none {H : Type} : Left H := { results := [], args := [] }

/-- 'patchbaykeep3.TrackBegins': WHATEVER THE INPUT: true; the input reads as it did. -/
def trackBeginsSpec : ChangeSpec := { name := "trackBegins", fn := fun _ => fun
  | [d1, d2, d3] => { results := [.lit (.bool true)], args := [d1, d2, d3] }
  | _ => none }
def trackBeginsRow : OpenClaim := { program := "ytagdgalnaobpeaa", sum := "0e6f774e8b3e88d31af237224b76f28bad47005a8240f738c6bb36038d20ae16", func := "patchbay/patchbaykeep3.TrackBegins", spec := "trackBegins", unfollowed := true, recurses := true, apart := false }
def TrackBeginsSaid : Prop := trackBeginsRow.holds Try.pinned (OpenSpec.ofChange trackBeginsSpec)

/-- ITS FALSE NEIGHBOUR: 'it returns false'. Refute it at one input. -/
def trackBeginsWrong : ChangeSpec := { name := "trackBegins", fn := fun _ => fun
  | [d1, d2, d3] => { results := [.lit (.bool false)], args := [d1, d2, d3] }
  | _ => none }
def TrackBeginsWrongFalsely : Prop := trackBeginsRow.holds Try.pinned (OpenSpec.ofChange trackBeginsWrong)

/-- 'patchbaykeep3.TrackCloses': WHATEVER THE INPUT: true; the input reads as it did. -/
def trackClosesSpec : ChangeSpec := { name := "trackCloses", fn := fun _ => fun
  | [d1, d2, d3, d4, d5] => { results := [.lit (.bool true)], args := [d1, d2, d3, d4, d5] }
  | _ => none }
def trackClosesRow : OpenClaim := { program := "ytagdgalnaobpeaa", sum := "0e6f774e8b3e88d31af237224b76f28bad47005a8240f738c6bb36038d20ae16", func := "patchbay/patchbaykeep3.TrackCloses", spec := "trackCloses", unfollowed := true, recurses := true, apart := false }
def TrackClosesSaid : Prop := trackClosesRow.holds Try.pinned (OpenSpec.ofChange trackClosesSpec)

/-- ITS FALSE NEIGHBOUR: 'it returns false'. Refute it at one input. -/
def trackClosesWrong : ChangeSpec := { name := "trackCloses", fn := fun _ => fun
  | [d1, d2, d3, d4, d5] => { results := [.lit (.bool false)], args := [d1, d2, d3, d4, d5] }
  | _ => none }
def TrackClosesWrongFalsely : Prop := trackClosesRow.holds Try.pinned (OpenSpec.ofChange trackClosesWrong)

/-- 'patchbaykeep3.TrackReplies': WHATEVER THE INPUT: true; the input reads as it did. -/
def trackRepliesSpec : ChangeSpec := { name := "trackReplies", fn := fun _ => fun
  | [d1, d2, d3, d4] => { results := [.lit (.bool true)], args := [d1, d2, d3, d4] }
  | _ => none }
def trackRepliesRow : OpenClaim := { program := "ytagdgalnaobpeaa", sum := "0e6f774e8b3e88d31af237224b76f28bad47005a8240f738c6bb36038d20ae16", func := "patchbay/patchbaykeep3.TrackReplies", spec := "trackReplies", unfollowed := true, recurses := true, apart := false }
def TrackRepliesSaid : Prop := trackRepliesRow.holds Try.pinned (OpenSpec.ofChange trackRepliesSpec)

/-- ITS FALSE NEIGHBOUR: 'it returns false'. Refute it at one input. -/
def trackRepliesWrong : ChangeSpec := { name := "trackReplies", fn := fun _ => fun
  | [d1, d2, d3, d4] => { results := [.lit (.bool false)], args := [d1, d2, d3, d4] }
  | _ => none }
def TrackRepliesWrongFalsely : Prop := trackRepliesRow.holds Try.pinned (OpenSpec.ofChange trackRepliesWrong)

/-- 'patchbaykeep3.TrackRefuses': WHATEVER THE INPUT: true; the input reads as it did. -/
def trackRefusesSpec : ChangeSpec := { name := "trackRefuses", fn := fun _ => fun
  | [d1, d2, d3] => { results := [.lit (.bool true)], args := [d1, d2, d3] }
  | _ => none }
def trackRefusesRow : OpenClaim := { program := "ytagdgalnaobpeaa", sum := "0e6f774e8b3e88d31af237224b76f28bad47005a8240f738c6bb36038d20ae16", func := "patchbay/patchbaykeep3.TrackRefuses", spec := "trackRefuses", unfollowed := true, recurses := true, apart := false }
def TrackRefusesSaid : Prop := trackRefusesRow.holds Try.pinned (OpenSpec.ofChange trackRefusesSpec)

/-- ITS FALSE NEIGHBOUR: 'it returns false'. Refute it at one input. -/
def trackRefusesWrong : ChangeSpec := { name := "trackRefuses", fn := fun _ => fun
  | [d1, d2, d3] => { results := [.lit (.bool false)], args := [d1, d2, d3] }
  | _ => none }
def TrackRefusesWrongFalsely : Prop := trackRefusesRow.holds Try.pinned (OpenSpec.ofChange trackRefusesWrong)

/- THE SECOND FORM. 'bulk': how many values and letters a reading holds, each counted each time it is reached (what is shared counts as often as it is met; a slice's spare places count too). A statement '..UptoSaid' is the law's where the arguments, and the package variables that the reading takes, are together of bulk at most 1048576: NARROWER than '..Said'. Prove '..Said' where nothing that the law and all that it calls make is longer than what came in: it says more and counts as full. Else prove '..UptoSaid'. A law counts once. -/
mutual
def uptoBulk {H : Type} : DataW H → Nat
  | .lit (.string bytes) => bytes.length + 1
  | .lit _ => 1
  | .nil => 1
  | .ptr d => uptoBulk d + 1
  | .slice elems spare => uptoBulkAll elems + uptoBulkAll spare + 1
  | .agg parts => uptoBulkAll parts + 1
  | .iface _ d => uptoBulk d + 1
  | .map entries => uptoBulkEntries entries + 1
  | .held _ => 1
def uptoBulkAll {H : Type} : List (DataW H) → Nat
  | [] => 0
  | d :: r => uptoBulk d + uptoBulkAll r
def uptoBulkEntries {H : Type} : List (Lit × DataW H) → Nat
  | [] => 0
  | x :: r => uptoBulkEntry x + uptoBulkEntries r
def uptoBulkEntry {H : Type} : Lit × DataW H → Nat
  | (.string bytes, d) => bytes.length + uptoBulk d + 1
  | (_, d) => uptoBulk d + 1
 end
def uptoSmall : (H : Type) → List (DataW H) → Bool := fun _ ds => decide (uptoBulkAll ds ≤ 1048576)
def OpenSpec.upto (s : _root_.Go.ChangeSpec) : _root_.Go.OpenSpec := { _root_.Go.OpenSpec.ofChange s with cond := some uptoSmall }

/-- 'patchbaykeep3.TrackBegins', WHERE WHAT IT READS IS OF BULK AT MOST 1048576: true; the input reads as it did. -/
def trackBeginsUptoRow : OpenClaim := { program := "ytagdgalnaobpeaa", sum := "0e6f774e8b3e88d31af237224b76f28bad47005a8240f738c6bb36038d20ae16", func := "patchbay/patchbaykeep3.TrackBegins", spec := "trackBegins", unfollowed := true, recurses := true, apart := false, narrowed := true }
def TrackBeginsUptoSaid : Prop := trackBeginsUptoRow.holds Try.pinned (OpenSpec.upto trackBeginsSpec)

/-- 'patchbaykeep3.TrackCloses', WHERE WHAT IT READS IS OF BULK AT MOST 1048576: true; the input reads as it did. -/
def trackClosesUptoRow : OpenClaim := { program := "ytagdgalnaobpeaa", sum := "0e6f774e8b3e88d31af237224b76f28bad47005a8240f738c6bb36038d20ae16", func := "patchbay/patchbaykeep3.TrackCloses", spec := "trackCloses", unfollowed := true, recurses := true, apart := false, narrowed := true }
def TrackClosesUptoSaid : Prop := trackClosesUptoRow.holds Try.pinned (OpenSpec.upto trackClosesSpec)

/-- 'patchbaykeep3.TrackReplies', WHERE WHAT IT READS IS OF BULK AT MOST 1048576: true; the input reads as it did. -/
def trackRepliesUptoRow : OpenClaim := { program := "ytagdgalnaobpeaa", sum := "0e6f774e8b3e88d31af237224b76f28bad47005a8240f738c6bb36038d20ae16", func := "patchbay/patchbaykeep3.TrackReplies", spec := "trackReplies", unfollowed := true, recurses := true, apart := false, narrowed := true }
def TrackRepliesUptoSaid : Prop := trackRepliesUptoRow.holds Try.pinned (OpenSpec.upto trackRepliesSpec)

/-- 'patchbaykeep3.TrackRefuses', WHERE WHAT IT READS IS OF BULK AT MOST 1048576: true; the input reads as it did. -/
def trackRefusesUptoRow : OpenClaim := { program := "ytagdgalnaobpeaa", sum := "0e6f774e8b3e88d31af237224b76f28bad47005a8240f738c6bb36038d20ae16", func := "patchbay/patchbaykeep3.TrackRefuses", spec := "trackRefuses", unfollowed := true, recurses := true, apart := false, narrowed := true }
def TrackRefusesUptoSaid : Prop := trackRefusesUptoRow.holds Try.pinned (OpenSpec.upto trackRefusesSpec)

end Rows
end Go.Proofs.Ytagdgalnaobpeaa
