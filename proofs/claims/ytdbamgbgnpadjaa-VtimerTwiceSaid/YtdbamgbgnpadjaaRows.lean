/-
  No cell of these rows narrows 'for every input' (looked for: loops, veiled, ifaces, maps, wideKeys, modest, calm, conditions, laid).
  DERIVED. THE GIVEN ROWS OF THIS SEAT. 4 by the template 'for every input the law returns true; each argument reads behind the call as it read before'; 0 by the template 'total and deterministic' (their statements: YtdbamgbgnpadjaaTotals.lean).
  GIVEN WITH THE SEED: the statements are not yours to turn. If you find one false, say at which input.
  Laid BY PROGRAM, IN A SANDBOX (cutbox-rows.mjs): the forced cells as the released guide's own fill.sh prints them over the translation efb1c26e760895ae… (all of the seat's roots in one cut). By AI agents, Wed Nov 11 2026. No macro, syntax, notation, axiom, sorry.
-/
import Derived.Test.YtdbamgbgnpadjaaChecked
import GoSem.Claim
import GoSem.ClaimJoined
import GoSem.ClaimMapViews
import Derived.JoinedTies
import Derived.KernelRfl
namespace Go.Proofs.Ytdbamgbgnpadjaa
/- THE CELL 'sum', in the pinned program and in every row, IS THE sha256 OF THE DUMP (.gsa) THAT YtdbamgbgnpadjaaProg.lean LOADS. Nothing in Lean hashes anything: it is a label: what it is worth is what the hold of that sum in a sandbox is worth. -/
noncomputable def Try.pinned : Pinned := { name := "ytdbamgbgnpadjaa", sum := "efb1c26e760895ae1d35f9d5ef4b91fe88e1014632ce561b8aafc193fb09b8c6", checked := Try.checked }
namespace Rows
def none {H : Type} : Left H := { results := [], args := [] }

/-- 'mainsheetlaw18.VtimerTwice': WHATEVER THE INPUT: true; the input reads as it did. -/
def vtimerTwiceSpec : ChangeSpec := { name := "vtimerTwice", fn := fun _ => fun
  | [d1, d2] => { results := [.lit (.bool true)], args := [d1, d2] }
  | _ => none }
def vtimerTwiceRow : OpenClaim := { program := "ytdbamgbgnpadjaa", sum := "efb1c26e760895ae1d35f9d5ef4b91fe88e1014632ce561b8aafc193fb09b8c6", func := "mainsheet/mainsheetlaw18.VtimerTwice", spec := "vtimerTwice", inPlace := ["slices.overlaps[mainsheet/api.Timer]", "slices.overlaps[mainsheet/api.Alarm]"], unfollowed := true, recurses := true, plainKeys := false, apart := false }
def VtimerTwiceSaid : Prop := vtimerTwiceRow.holds Try.pinned (OpenSpec.ofChange vtimerTwiceSpec)

/-- ITS FALSE NEIGHBOUR: 'it returns false'. Refute it at one input. -/
def vtimerTwiceWrong : ChangeSpec := { name := "vtimerTwice", fn := fun _ => fun
  | [d1, d2] => { results := [.lit (.bool false)], args := [d1, d2] }
  | _ => none }
def VtimerTwiceWrongFalsely : Prop := vtimerTwiceRow.holds Try.pinned (OpenSpec.ofChange vtimerTwiceWrong)

/-- 'mainsheetlaw18.VtimerOrder': WHATEVER THE INPUT: true; the input reads as it did. -/
def vtimerOrderSpec : ChangeSpec := { name := "vtimerOrder", fn := fun _ => fun
  | [d1, d2] => { results := [.lit (.bool true)], args := [d1, d2] }
  | _ => none }
def vtimerOrderRow : OpenClaim := { program := "ytdbamgbgnpadjaa", sum := "efb1c26e760895ae1d35f9d5ef4b91fe88e1014632ce561b8aafc193fb09b8c6", func := "mainsheet/mainsheetlaw18.VtimerOrder", spec := "vtimerOrder", inPlace := ["slices.overlaps[mainsheet/api.Timer]", "slices.overlaps[mainsheet/api.Alarm]"], unfollowed := true, recurses := true, plainKeys := false, apart := false }
def VtimerOrderSaid : Prop := vtimerOrderRow.holds Try.pinned (OpenSpec.ofChange vtimerOrderSpec)

/-- ITS FALSE NEIGHBOUR: 'it returns false'. Refute it at one input. -/
def vtimerOrderWrong : ChangeSpec := { name := "vtimerOrder", fn := fun _ => fun
  | [d1, d2] => { results := [.lit (.bool false)], args := [d1, d2] }
  | _ => none }
def VtimerOrderWrongFalsely : Prop := vtimerOrderRow.holds Try.pinned (OpenSpec.ofChange vtimerOrderWrong)

/-- 'mainsheetlaw18.VtimerTells': WHATEVER THE INPUT: true; the input reads as it did. -/
def vtimerTellsSpec : ChangeSpec := { name := "vtimerTells", fn := fun _ => fun
  | [d] => { results := [.lit (.bool true)], args := [d] }
  | _ => none }
def vtimerTellsRow : OpenClaim := { program := "ytdbamgbgnpadjaa", sum := "efb1c26e760895ae1d35f9d5ef4b91fe88e1014632ce561b8aafc193fb09b8c6", func := "mainsheet/mainsheetlaw18.VtimerTells", spec := "vtimerTells", inPlace := ["slices.overlaps[mainsheet/api.Timer]", "slices.overlaps[mainsheet/api.Alarm]"], unfollowed := true, recurses := true, plainKeys := false, apart := false }
def VtimerTellsSaid : Prop := vtimerTellsRow.holds Try.pinned (OpenSpec.ofChange vtimerTellsSpec)

/-- ITS FALSE NEIGHBOUR: 'it returns false'. Refute it at one input. -/
def vtimerTellsWrong : ChangeSpec := { name := "vtimerTells", fn := fun _ => fun
  | [d] => { results := [.lit (.bool false)], args := [d] }
  | _ => none }
def VtimerTellsWrongFalsely : Prop := vtimerTellsRow.holds Try.pinned (OpenSpec.ofChange vtimerTellsWrong)

/-- 'mainsheetlaw18.VtimerStops': WHATEVER THE INPUT: true; the input reads as it did. -/
def vtimerStopsSpec : ChangeSpec := { name := "vtimerStops", fn := fun _ => fun
  | [d1, d2] => { results := [.lit (.bool true)], args := [d1, d2] }
  | _ => none }
def vtimerStopsRow : OpenClaim := { program := "ytdbamgbgnpadjaa", sum := "efb1c26e760895ae1d35f9d5ef4b91fe88e1014632ce561b8aafc193fb09b8c6", func := "mainsheet/mainsheetlaw18.VtimerStops", spec := "vtimerStops", inPlace := ["slices.overlaps[mainsheet/api.Timer]", "slices.overlaps[mainsheet/api.Alarm]"], unfollowed := true, recurses := true, plainKeys := false, apart := false }
def VtimerStopsSaid : Prop := vtimerStopsRow.holds Try.pinned (OpenSpec.ofChange vtimerStopsSpec)

/-- ITS FALSE NEIGHBOUR: 'it returns false'. Refute it at one input. -/
def vtimerStopsWrong : ChangeSpec := { name := "vtimerStops", fn := fun _ => fun
  | [d1, d2] => { results := [.lit (.bool false)], args := [d1, d2] }
  | _ => none }
def VtimerStopsWrongFalsely : Prop := vtimerStopsRow.holds Try.pinned (OpenSpec.ofChange vtimerStopsWrong)

/- THE SECOND FORM. 'bulk': how many values and letters a reading holds, each counted each time it is reached (what is shared counts as often as it is met; a slice's spare places count too). A statement '..UptoSaid' is the law's where the arguments, and the package variables that the reading takes, are together of bulk at most 1048576: NARROWER than '..Said'. Prove '..Said' where nothing that the law and all that it calls make is longer than what came in: it says more and counts as full. Else prove '..UptoSaid'. A law counts once. -/
mutual
def uptoBulk {H : Type} : DataW H → Nat
  | .lit (.string bytes) => bytes.length + 1
  | .lit _ => 1
  | .nil => 1
  | .ptr d => uptoBulk d + 1
  | .slice elems spare => uptoBulkAll elems + uptoBulkAll spare + 1
  | .agg parts => uptoBulkAll parts + 1
  | .iface _ d => uptoBulk d + 1
  | .map entries => uptoBulkEntries entries + 1
  | .held _ => 1
def uptoBulkAll {H : Type} : List (DataW H) → Nat
  | [] => 0
  | d :: r => uptoBulk d + uptoBulkAll r
def uptoBulkEntries {H : Type} : List (Lit × DataW H) → Nat
  | [] => 0
  | x :: r => uptoBulkEntry x + uptoBulkEntries r
def uptoBulkEntry {H : Type} : Lit × DataW H → Nat
  | (.string bytes, d) => bytes.length + uptoBulk d + 1
  | (_, d) => uptoBulk d + 1
 end
def uptoSmall : (H : Type) → List (DataW H) → Bool := fun _ ds => decide (uptoBulkAll ds ≤ 1048576)
def OpenSpec.upto (s : _root_.Go.ChangeSpec) : _root_.Go.OpenSpec := { _root_.Go.OpenSpec.ofChange s with cond := some uptoSmall }

/-- 'mainsheetlaw18.VtimerTwice', WHERE WHAT IT READS IS OF BULK AT MOST 1048576: true; the input reads as it did. -/
def vtimerTwiceUptoRow : OpenClaim := { program := "ytdbamgbgnpadjaa", sum := "efb1c26e760895ae1d35f9d5ef4b91fe88e1014632ce561b8aafc193fb09b8c6", func := "mainsheet/mainsheetlaw18.VtimerTwice", spec := "vtimerTwice", inPlace := ["slices.overlaps[mainsheet/api.Timer]", "slices.overlaps[mainsheet/api.Alarm]"], unfollowed := true, recurses := true, plainKeys := false, apart := false, narrowed := true }
def VtimerTwiceUptoSaid : Prop := vtimerTwiceUptoRow.holds Try.pinned (OpenSpec.upto vtimerTwiceSpec)

/-- 'mainsheetlaw18.VtimerOrder', WHERE WHAT IT READS IS OF BULK AT MOST 1048576: true; the input reads as it did. -/
def vtimerOrderUptoRow : OpenClaim := { program := "ytdbamgbgnpadjaa", sum := "efb1c26e760895ae1d35f9d5ef4b91fe88e1014632ce561b8aafc193fb09b8c6", func := "mainsheet/mainsheetlaw18.VtimerOrder", spec := "vtimerOrder", inPlace := ["slices.overlaps[mainsheet/api.Timer]", "slices.overlaps[mainsheet/api.Alarm]"], unfollowed := true, recurses := true, plainKeys := false, apart := false, narrowed := true }
def VtimerOrderUptoSaid : Prop := vtimerOrderUptoRow.holds Try.pinned (OpenSpec.upto vtimerOrderSpec)

/-- 'mainsheetlaw18.VtimerTells', WHERE WHAT IT READS IS OF BULK AT MOST 1048576: true; the input reads as it did. -/
def vtimerTellsUptoRow : OpenClaim := { program := "ytdbamgbgnpadjaa", sum := "efb1c26e760895ae1d35f9d5ef4b91fe88e1014632ce561b8aafc193fb09b8c6", func := "mainsheet/mainsheetlaw18.VtimerTells", spec := "vtimerTells", inPlace := ["slices.overlaps[mainsheet/api.Timer]", "slices.overlaps[mainsheet/api.Alarm]"], unfollowed := true, recurses := true, plainKeys := false, apart := false, narrowed := true }
def VtimerTellsUptoSaid : Prop := vtimerTellsUptoRow.holds Try.pinned (OpenSpec.upto vtimerTellsSpec)

/-- 'mainsheetlaw18.VtimerStops', WHERE WHAT IT READS IS OF BULK AT MOST 1048576: true; the input reads as it did. -/
def vtimerStopsUptoRow : OpenClaim := { program := "ytdbamgbgnpadjaa", sum := "efb1c26e760895ae1d35f9d5ef4b91fe88e1014632ce561b8aafc193fb09b8c6", func := "mainsheet/mainsheetlaw18.VtimerStops", spec := "vtimerStops", inPlace := ["slices.overlaps[mainsheet/api.Timer]", "slices.overlaps[mainsheet/api.Alarm]"], unfollowed := true, recurses := true, plainKeys := false, apart := false, narrowed := true }
def VtimerStopsUptoSaid : Prop := vtimerStopsUptoRow.holds Try.pinned (OpenSpec.upto vtimerStopsSpec)

end Rows
end Go.Proofs.Ytdbamgbgnpadjaa
