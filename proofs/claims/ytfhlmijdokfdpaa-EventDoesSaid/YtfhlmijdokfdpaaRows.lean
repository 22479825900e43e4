/-
  No cell of these rows narrows 'for every input' (looked for: loops, veiled, ifaces, maps, wideKeys, modest, calm, conditions, laid).
  DERIVED. THE GIVEN ROWS OF THIS SEAT. 7 by the template 'for every input the law returns true; each argument reads behind the call as it read before'; 0 by the template 'total and deterministic' (their statements: YtfhlmijdokfdpaaTotals.lean).
  GIVEN WITH THE SEED: the statements are not yours to turn. If you find one false, say at which input.
  Laid BY PROGRAM, IN A SANDBOX (cutbox-rows.mjs): the forced cells as the released guide's own fill.sh prints them over the translation 703627642b45ba65… (all of the seat's roots in one cut). By AI agents, Wed Nov 11 2026. No macro, syntax, notation, axiom, sorry.
-/
import Derived.Test.YtfhlmijdokfdpaaChecked
import GoSem.Claim
import GoSem.ClaimJoined
import GoSem.ClaimMapViews
import Derived.JoinedTies
import Derived.KernelRfl
namespace Go.Proofs.Ytfhlmijdokfdpaa
/- THE CELL 'sum', in the pinned program and in every row, IS THE sha256 OF THE DUMP (.gsa) THAT YtfhlmijdokfdpaaProg.lean LOADS. Nothing in Lean hashes anything: it is a label: what it is worth is what the hold of that sum in a sandbox is worth. -/
noncomputable def Try.pinned : Pinned := { name := "ytfhlmijdokfdpaa", sum := "703627642b45ba6578a2dcf3235b9bbf29f733bdd8dbbc08e10b4fca4c54aa77", checked := Try.checked }
namespace Rows
def none {H : Type} : Left H := { results := [], args := [] }

/-- 'mainsheetlaw16.EventPolls': WHATEVER THE INPUT: true; the input reads as it did. -/
def eventPollsSpec : ChangeSpec := { name := "eventPolls", fn := fun _ => fun
  | [d1, d2] => { results := [.lit (.bool true)], args := [d1, d2] }
  | _ => none }
def eventPollsRow : OpenClaim := { program := "ytfhlmijdokfdpaa", sum := "703627642b45ba6578a2dcf3235b9bbf29f733bdd8dbbc08e10b4fca4c54aa77", func := "mainsheet/mainsheetlaw16.EventPolls", spec := "eventPolls", inPlace := ["slices.overlaps[mainsheet/api.Port]"], unfollowed := true, recurses := true, apart := false }
def EventPollsSaid : Prop := eventPollsRow.holds Try.pinned (OpenSpec.ofChange eventPollsSpec)

/-- ITS FALSE NEIGHBOUR: 'it returns false'. Refute it at one input. -/
def eventPollsWrong : ChangeSpec := { name := "eventPolls", fn := fun _ => fun
  | [d1, d2] => { results := [.lit (.bool false)], args := [d1, d2] }
  | _ => none }
def EventPollsWrongFalsely : Prop := eventPollsRow.holds Try.pinned (OpenSpec.ofChange eventPollsWrong)

/-- 'mainsheetlaw16.EventTells': WHATEVER THE INPUT: true; the input reads as it did. -/
def eventTellsSpec : ChangeSpec := { name := "eventTells", fn := fun _ => fun
  | [d1, d2] => { results := [.lit (.bool true)], args := [d1, d2] }
  | _ => none }
def eventTellsRow : OpenClaim := { program := "ytfhlmijdokfdpaa", sum := "703627642b45ba6578a2dcf3235b9bbf29f733bdd8dbbc08e10b4fca4c54aa77", func := "mainsheet/mainsheetlaw16.EventTells", spec := "eventTells", inPlace := ["slices.overlaps[mainsheet/api.Port]"], unfollowed := true, recurses := true, apart := false }
def EventTellsSaid : Prop := eventTellsRow.holds Try.pinned (OpenSpec.ofChange eventTellsSpec)

/-- ITS FALSE NEIGHBOUR: 'it returns false'. Refute it at one input. -/
def eventTellsWrong : ChangeSpec := { name := "eventTells", fn := fun _ => fun
  | [d1, d2] => { results := [.lit (.bool false)], args := [d1, d2] }
  | _ => none }
def EventTellsWrongFalsely : Prop := eventTellsRow.holds Try.pinned (OpenSpec.ofChange eventTellsWrong)

/-- 'mainsheetlaw16.EventPolled': WHATEVER THE INPUT: true; the input reads as it did. -/
def eventPolledSpec : ChangeSpec := { name := "eventPolled", fn := fun _ => fun
  | [d1, d2] => { results := [.lit (.bool true)], args := [d1, d2] }
  | _ => none }
def eventPolledRow : OpenClaim := { program := "ytfhlmijdokfdpaa", sum := "703627642b45ba6578a2dcf3235b9bbf29f733bdd8dbbc08e10b4fca4c54aa77", func := "mainsheet/mainsheetlaw16.EventPolled", spec := "eventPolled", inPlace := ["slices.overlaps[mainsheet/api.Port]"], unfollowed := true, recurses := true, apart := false }
def EventPolledSaid : Prop := eventPolledRow.holds Try.pinned (OpenSpec.ofChange eventPolledSpec)

/-- ITS FALSE NEIGHBOUR: 'it returns false'. Refute it at one input. -/
def eventPolledWrong : ChangeSpec := { name := "eventPolled", fn := fun _ => fun
  | [d1, d2] => { results := [.lit (.bool false)], args := [d1, d2] }
  | _ => none }
def EventPolledWrongFalsely : Prop := eventPolledRow.holds Try.pinned (OpenSpec.ofChange eventPolledWrong)

/-- 'mainsheetlaw16.EventDoes': WHATEVER THE INPUT: true; the input reads as it did. -/
def eventDoesSpec : ChangeSpec := { name := "eventDoes", fn := fun _ => fun
  | [d1, d2] => { results := [.lit (.bool true)], args := [d1, d2] }
  | _ => none }
def eventDoesRow : OpenClaim := { program := "ytfhlmijdokfdpaa", sum := "703627642b45ba6578a2dcf3235b9bbf29f733bdd8dbbc08e10b4fca4c54aa77", func := "mainsheet/mainsheetlaw16.EventDoes", spec := "eventDoes", inPlace := ["slices.overlaps[mainsheet/api.Port]"], unfollowed := true, recurses := true, apart := false }
def EventDoesSaid : Prop := eventDoesRow.holds Try.pinned (OpenSpec.ofChange eventDoesSpec)

/-- ITS FALSE NEIGHBOUR: 'it returns false'. Refute it at one input. -/
def eventDoesWrong : ChangeSpec := { name := "eventDoes", fn := fun _ => fun
  | [d1, d2] => { results := [.lit (.bool false)], args := [d1, d2] }
  | _ => none }
def EventDoesWrongFalsely : Prop := eventDoesRow.holds Try.pinned (OpenSpec.ofChange eventDoesWrong)

/-- 'mainsheetlaw16.EventLinks': WHATEVER THE INPUT: true; the input reads as it did. -/
def eventLinksSpec : ChangeSpec := { name := "eventLinks", fn := fun _ => fun
  | [d] => { results := [.lit (.bool true)], args := [d] }
  | _ => none }
def eventLinksRow : OpenClaim := { program := "ytfhlmijdokfdpaa", sum := "703627642b45ba6578a2dcf3235b9bbf29f733bdd8dbbc08e10b4fca4c54aa77", func := "mainsheet/mainsheetlaw16.EventLinks", spec := "eventLinks", inPlace := ["slices.overlaps[mainsheet/api.Port]"], unfollowed := true, recurses := true, apart := false }
def EventLinksSaid : Prop := eventLinksRow.holds Try.pinned (OpenSpec.ofChange eventLinksSpec)

/-- ITS FALSE NEIGHBOUR: 'it returns false'. Refute it at one input. -/
def eventLinksWrong : ChangeSpec := { name := "eventLinks", fn := fun _ => fun
  | [d] => { results := [.lit (.bool false)], args := [d] }
  | _ => none }
def EventLinksWrongFalsely : Prop := eventLinksRow.holds Try.pinned (OpenSpec.ofChange eventLinksWrong)

/-- 'mainsheetlaw16.EventStays': WHATEVER THE INPUT: true; the input reads as it did. -/
def eventStaysSpec : ChangeSpec := { name := "eventStays", fn := fun _ => fun
  | [d] => { results := [.lit (.bool true)], args := [d] }
  | _ => none }
def eventStaysRow : OpenClaim := { program := "ytfhlmijdokfdpaa", sum := "703627642b45ba6578a2dcf3235b9bbf29f733bdd8dbbc08e10b4fca4c54aa77", func := "mainsheet/mainsheetlaw16.EventStays", spec := "eventStays", inPlace := ["slices.overlaps[mainsheet/api.Port]"], unfollowed := true, recurses := true, apart := false }
def EventStaysSaid : Prop := eventStaysRow.holds Try.pinned (OpenSpec.ofChange eventStaysSpec)

/-- ITS FALSE NEIGHBOUR: 'it returns false'. Refute it at one input. -/
def eventStaysWrong : ChangeSpec := { name := "eventStays", fn := fun _ => fun
  | [d] => { results := [.lit (.bool false)], args := [d] }
  | _ => none }
def EventStaysWrongFalsely : Prop := eventStaysRow.holds Try.pinned (OpenSpec.ofChange eventStaysWrong)

/-- 'mainsheetlaw16.EventWakes': WHATEVER THE INPUT: true; the input reads as it did. -/
def eventWakesSpec : ChangeSpec := { name := "eventWakes", fn := fun _ => fun
  | [d] => { results := [.lit (.bool true)], args := [d] }
  | _ => none }
def eventWakesRow : OpenClaim := { program := "ytfhlmijdokfdpaa", sum := "703627642b45ba6578a2dcf3235b9bbf29f733bdd8dbbc08e10b4fca4c54aa77", func := "mainsheet/mainsheetlaw16.EventWakes", spec := "eventWakes", inPlace := ["slices.overlaps[mainsheet/api.Port]"], unfollowed := true, recurses := true, apart := false }
def EventWakesSaid : Prop := eventWakesRow.holds Try.pinned (OpenSpec.ofChange eventWakesSpec)

/-- ITS FALSE NEIGHBOUR: 'it returns false'. Refute it at one input. -/
def eventWakesWrong : ChangeSpec := { name := "eventWakes", fn := fun _ => fun
  | [d] => { results := [.lit (.bool false)], args := [d] }
  | _ => none }
def EventWakesWrongFalsely : Prop := eventWakesRow.holds Try.pinned (OpenSpec.ofChange eventWakesWrong)

/- THE SECOND FORM. 'bulk': how many values and letters a reading holds, each counted each time it is reached (what is shared counts as often as it is met; a slice's spare places count too). A statement '..UptoSaid' is the law's where the arguments, and the package variables that the reading takes, are together of bulk at most 1048576: NARROWER than '..Said'. Prove '..Said' where nothing that the law and all that it calls make is longer than what came in: it says more and counts as full. Else prove '..UptoSaid'. A law counts once. -/
mutual
def uptoBulk {H : Type} : DataW H → Nat
  | .lit (.string bytes) => bytes.length + 1
  | .lit _ => 1
  | .nil => 1
  | .ptr d => uptoBulk d + 1
  | .slice elems spare => uptoBulkAll elems + uptoBulkAll spare + 1
  | .agg parts => uptoBulkAll parts + 1
  | .iface _ d => uptoBulk d + 1
  | .map entries => uptoBulkEntries entries + 1
  | .held _ => 1
def uptoBulkAll {H : Type} : List (DataW H) → Nat
  | [] => 0
  | d :: r => uptoBulk d + uptoBulkAll r
def uptoBulkEntries {H : Type} : List (Lit × DataW H) → Nat
  | [] => 0
  | x :: r => uptoBulkEntry x + uptoBulkEntries r
def uptoBulkEntry {H : Type} : Lit × DataW H → Nat
  | (.string bytes, d) => bytes.length + uptoBulk d + 1
  | (_, d) => uptoBulk d + 1
 end
def uptoSmall : (H : Type) → List (DataW H) → Bool := fun _ ds => decide (uptoBulkAll ds ≤ 1048576)
def OpenSpec.upto (s : _root_.Go.ChangeSpec) : _root_.Go.OpenSpec := { _root_.Go.OpenSpec.ofChange s with cond := some uptoSmall }

/-- 'mainsheetlaw16.EventPolls', WHERE WHAT IT READS IS OF BULK AT MOST 1048576: true; the input reads as it did. -/
def eventPollsUptoRow : OpenClaim := { program := "ytfhlmijdokfdpaa", sum := "703627642b45ba6578a2dcf3235b9bbf29f733bdd8dbbc08e10b4fca4c54aa77", func := "mainsheet/mainsheetlaw16.EventPolls", spec := "eventPolls", inPlace := ["slices.overlaps[mainsheet/api.Port]"], unfollowed := true, recurses := true, apart := false, narrowed := true }
def EventPollsUptoSaid : Prop := eventPollsUptoRow.holds Try.pinned (OpenSpec.upto eventPollsSpec)

/-- 'mainsheetlaw16.EventTells', WHERE WHAT IT READS IS OF BULK AT MOST 1048576: true; the input reads as it did. -/
def eventTellsUptoRow : OpenClaim := { program := "ytfhlmijdokfdpaa", sum := "703627642b45ba6578a2dcf3235b9bbf29f733bdd8dbbc08e10b4fca4c54aa77", func := "mainsheet/mainsheetlaw16.EventTells", spec := "eventTells", inPlace := ["slices.overlaps[mainsheet/api.Port]"], unfollowed := true, recurses := true, apart := false, narrowed := true }
def EventTellsUptoSaid : Prop := eventTellsUptoRow.holds Try.pinned (OpenSpec.upto eventTellsSpec)

/-- 'mainsheetlaw16.EventPolled', WHERE WHAT IT READS IS OF BULK AT MOST 1048576: true; the input reads as it did. -/
def eventPolledUptoRow : OpenClaim := { program := "ytfhlmijdokfdpaa", sum := "703627642b45ba6578a2dcf3235b9bbf29f733bdd8dbbc08e10b4fca4c54aa77", func := "mainsheet/mainsheetlaw16.EventPolled", spec := "eventPolled", inPlace := ["slices.overlaps[mainsheet/api.Port]"], unfollowed := true, recurses := true, apart := false, narrowed := true }
def EventPolledUptoSaid : Prop := eventPolledUptoRow.holds Try.pinned (OpenSpec.upto eventPolledSpec)

/-- 'mainsheetlaw16.EventDoes', WHERE WHAT IT READS IS OF BULK AT MOST 1048576: true; the input reads as it did. -/
def eventDoesUptoRow : OpenClaim := { program := "ytfhlmijdokfdpaa", sum := "703627642b45ba6578a2dcf3235b9bbf29f733bdd8dbbc08e10b4fca4c54aa77", func := "mainsheet/mainsheetlaw16.EventDoes", spec := "eventDoes", inPlace := ["slices.overlaps[mainsheet/api.Port]"], unfollowed := true, recurses := true, apart := false, narrowed := true }
def EventDoesUptoSaid : Prop := eventDoesUptoRow.holds Try.pinned (OpenSpec.upto eventDoesSpec)

/-- 'mainsheetlaw16.EventLinks', WHERE WHAT IT READS IS OF BULK AT MOST 1048576: true; the input reads as it did. -/
def eventLinksUptoRow : OpenClaim := { program := "ytfhlmijdokfdpaa", sum := "703627642b45ba6578a2dcf3235b9bbf29f733bdd8dbbc08e10b4fca4c54aa77", func := "mainsheet/mainsheetlaw16.EventLinks", spec := "eventLinks", inPlace := ["slices.overlaps[mainsheet/api.Port]"], unfollowed := true, recurses := true, apart := false, narrowed := true }
def EventLinksUptoSaid : Prop := eventLinksUptoRow.holds Try.pinned (OpenSpec.upto eventLinksSpec)

/-- 'mainsheetlaw16.EventStays', WHERE WHAT IT READS IS OF BULK AT MOST 1048576: true; the input reads as it did. -/
def eventStaysUptoRow : OpenClaim := { program := "ytfhlmijdokfdpaa", sum := "703627642b45ba6578a2dcf3235b9bbf29f733bdd8dbbc08e10b4fca4c54aa77", func := "mainsheet/mainsheetlaw16.EventStays", spec := "eventStays", inPlace := ["slices.overlaps[mainsheet/api.Port]"], unfollowed := true, recurses := true, apart := false, narrowed := true }
def EventStaysUptoSaid : Prop := eventStaysUptoRow.holds Try.pinned (OpenSpec.upto eventStaysSpec)

/-- 'mainsheetlaw16.EventWakes', WHERE WHAT IT READS IS OF BULK AT MOST 1048576: true; the input reads as it did. -/
def eventWakesUptoRow : OpenClaim := { program := "ytfhlmijdokfdpaa", sum := "703627642b45ba6578a2dcf3235b9bbf29f733bdd8dbbc08e10b4fca4c54aa77", func := "mainsheet/mainsheetlaw16.EventWakes", spec := "eventWakes", inPlace := ["slices.overlaps[mainsheet/api.Port]"], unfollowed := true, recurses := true, apart := false, narrowed := true }
def EventWakesUptoSaid : Prop := eventWakesUptoRow.holds Try.pinned (OpenSpec.upto eventWakesSpec)

end Rows
end Go.Proofs.Ytfhlmijdokfdpaa
