/-
  NARROWER THAN 'FOR EVERY INPUT', by the rows' own cells (each row's printed sentence says how): Streamed: laid · Sided: laid · Carried: laid · Live: laid · Given: laid · Served: laid · Left: laid · Waits: laid.
  DERIVED. THE GIVEN ROWS OF THIS SEAT. 8 by the template 'for every input the law returns true; each argument reads behind the call as it read before'; 0 by the template 'total and deterministic' (their statements: YtgfdlpcdjklcoaaGreatDoorTotals.lean).
  GIVEN WITH THE SEED: the statements are not yours to turn. If you find one false, say at which input.
  Laid BY PROGRAM, IN A SANDBOX (cutbox-rows.mjs): the forced cells as the released guide's own fill.sh prints them over the translation cfc33d4eb17d058c… (all of the seat's roots in one cut). By AI agents, Wed Nov 11 2026. No macro, syntax, notation, axiom, sorry.
-/
import Derived.Test.YtgfdlpcdjklcoaaGreatDoorChecked
import GoSem.Claim
import GoSem.ClaimJoined
import GoSem.ClaimMapViews
import Derived.JoinedTies
import Derived.KernelRfl
namespace Go.Proofs.YtgfdlpcdjklcoaaGreatDoor
/- THE CELL 'sum', in the pinned program and in every row, IS THE sha256 OF THE DUMP (.gsa) THAT YtgfdlpcdjklcoaaGreatDoorProg.lean LOADS. Nothing in Lean hashes anything: it is a label: what it is worth is what the hold of that sum in a sandbox is worth. -/
noncomputable def Tryz.pinned : Pinned := { name := "ytgfdlpcdjklcoaagreatdoor", sum := "cfc33d4eb17d058cbde482b906520f00ee8e402e8eb9beaccbaf73c3b1f3abc2", checked := Tryz.checked }
namespace Rows
def none {H : Type} : Left H := { results := [], args := [] }

/- WHAT THE LISTED PACKAGE-LEVEL VARIABLES READ AS WHEN THE CALL BEGINS. Each datum BY PROGRAM (the guide's laid-datum.mjs) off the statement by which the dump's own 'gosem.cut.vars' lays the variable. In a bare row this is a premise. The card (YtgfdlpcdjklcoaaGreatDoorCards.lean) ties it to the program's text. -/
def laid_errors_errorType {H : Type} : DataW H := .iface "internal/reflectlite.rtype" (.agg [.ptr (.lit (.string [101, 114, 114, 111, 114]))])

/-- 'sealstreamlaw.Streamed': WHATEVER THE INPUT: true; the input reads as it did. -/
def streamedSpec : ChangeSpec := { name := "streamed", fn := fun _ => fun
  | [d1, d2] => { results := [.lit (.bool true)], args := [d1, d2] }
  | _ => none }
def streamedRow : OpenClaim := { program := "ytgfdlpcdjklcoaagreatdoor", sum := "cfc33d4eb17d058cbde482b906520f00ee8e402e8eb9beaccbaf73c3b1f3abc2", func := "sealstream/sealstreamlaw.Streamed", spec := "streamed", inPlace := ["internal/reflectlite.ValueOf", "(internal/reflectlite.Value).Type", "(internal/reflectlite.Value).IsNil", "internal/reflectlite.TypeOf", "(internal/reflectlite.Value).Elem", "(internal/reflectlite.Value).Set", "slices.overlaps[sealstream/api.Range]"], unfollowed := true, recurses := true, named := ["errors.errorType"], leaving := true, apart := false, laid := [("errors.errorType", laid_errors_errorType)] }
def StreamedSaid : Prop := streamedRow.holds Tryz.pinned (OpenSpec.ofChange streamedSpec)

/-- ITS FALSE NEIGHBOUR: 'it returns false'. Refute it at one input. -/
def streamedWrong : ChangeSpec := { name := "streamed", fn := fun _ => fun
  | [d1, d2] => { results := [.lit (.bool false)], args := [d1, d2] }
  | _ => none }
def StreamedWrongFalsely : Prop := streamedRow.holds Tryz.pinned (OpenSpec.ofChange streamedWrong)

/-- 'sealstreamlaw.Sided': WHATEVER THE INPUT: true; the input reads as it did. -/
def sidedSpec : ChangeSpec := { name := "sided", fn := fun _ => fun
  | [d1, d2] => { results := [.lit (.bool true)], args := [d1, d2] }
  | _ => none }
def sidedRow : OpenClaim := { program := "ytgfdlpcdjklcoaagreatdoor", sum := "cfc33d4eb17d058cbde482b906520f00ee8e402e8eb9beaccbaf73c3b1f3abc2", func := "sealstream/sealstreamlaw.Sided", spec := "sided", inPlace := ["internal/reflectlite.ValueOf", "(internal/reflectlite.Value).Type", "(internal/reflectlite.Value).IsNil", "internal/reflectlite.TypeOf", "(internal/reflectlite.Value).Elem", "(internal/reflectlite.Value).Set", "slices.overlaps[sealstream/api.Range]"], unfollowed := true, recurses := true, named := ["errors.errorType"], leaving := true, apart := false, laid := [("errors.errorType", laid_errors_errorType)] }
def SidedSaid : Prop := sidedRow.holds Tryz.pinned (OpenSpec.ofChange sidedSpec)

/-- ITS FALSE NEIGHBOUR: 'it returns false'. Refute it at one input. -/
def sidedWrong : ChangeSpec := { name := "sided", fn := fun _ => fun
  | [d1, d2] => { results := [.lit (.bool false)], args := [d1, d2] }
  | _ => none }
def SidedWrongFalsely : Prop := sidedRow.holds Tryz.pinned (OpenSpec.ofChange sidedWrong)

/-- 'sealstreamkeep.Carried': WHATEVER THE INPUT: true; the input reads as it did. -/
def carriedSpec : ChangeSpec := { name := "carried", fn := fun _ => fun
  | [d1, d2, d3] => { results := [.lit (.bool true)], args := [d1, d2, d3] }
  | _ => none }
def carriedRow : OpenClaim := { program := "ytgfdlpcdjklcoaagreatdoor", sum := "cfc33d4eb17d058cbde482b906520f00ee8e402e8eb9beaccbaf73c3b1f3abc2", func := "sealstream/sealstreamkeep.Carried", spec := "carried", inPlace := ["internal/reflectlite.ValueOf", "(internal/reflectlite.Value).Type", "(internal/reflectlite.Value).IsNil", "internal/reflectlite.TypeOf", "(internal/reflectlite.Value).Elem", "(internal/reflectlite.Value).Set", "slices.overlaps[sealstream/api.Range]"], unfollowed := true, recurses := true, named := ["errors.errorType"], leaving := true, apart := false, laid := [("errors.errorType", laid_errors_errorType)] }
def CarriedSaid : Prop := carriedRow.holds Tryz.pinned (OpenSpec.ofChange carriedSpec)

/-- ITS FALSE NEIGHBOUR: 'it returns false'. Refute it at one input. -/
def carriedWrong : ChangeSpec := { name := "carried", fn := fun _ => fun
  | [d1, d2, d3] => { results := [.lit (.bool false)], args := [d1, d2, d3] }
  | _ => none }
def CarriedWrongFalsely : Prop := carriedRow.holds Tryz.pinned (OpenSpec.ofChange carriedWrong)

/-- 'sealstreamkeep.Live': WHATEVER THE INPUT: true; the input reads as it did. -/
def liveSpec : ChangeSpec := { name := "live", fn := fun _ => fun
  | [d1, d2, d3] => { results := [.lit (.bool true)], args := [d1, d2, d3] }
  | _ => none }
def liveRow : OpenClaim := { program := "ytgfdlpcdjklcoaagreatdoor", sum := "cfc33d4eb17d058cbde482b906520f00ee8e402e8eb9beaccbaf73c3b1f3abc2", func := "sealstream/sealstreamkeep.Live", spec := "live", inPlace := ["internal/reflectlite.ValueOf", "(internal/reflectlite.Value).Type", "(internal/reflectlite.Value).IsNil", "internal/reflectlite.TypeOf", "(internal/reflectlite.Value).Elem", "(internal/reflectlite.Value).Set", "slices.overlaps[sealstream/api.Range]"], unfollowed := true, recurses := true, named := ["errors.errorType"], leaving := true, apart := false, laid := [("errors.errorType", laid_errors_errorType)] }
def LiveSaid : Prop := liveRow.holds Tryz.pinned (OpenSpec.ofChange liveSpec)

/-- ITS FALSE NEIGHBOUR: 'it returns false'. Refute it at one input. -/
def liveWrong : ChangeSpec := { name := "live", fn := fun _ => fun
  | [d1, d2, d3] => { results := [.lit (.bool false)], args := [d1, d2, d3] }
  | _ => none }
def LiveWrongFalsely : Prop := liveRow.holds Tryz.pinned (OpenSpec.ofChange liveWrong)

/-- 'sealstreamkeep.Given': WHATEVER THE INPUT: true; the input reads as it did. -/
def givenSpec : ChangeSpec := { name := "given", fn := fun _ => fun
  | [d1, d2, d3] => { results := [.lit (.bool true)], args := [d1, d2, d3] }
  | _ => none }
def givenRow : OpenClaim := { program := "ytgfdlpcdjklcoaagreatdoor", sum := "cfc33d4eb17d058cbde482b906520f00ee8e402e8eb9beaccbaf73c3b1f3abc2", func := "sealstream/sealstreamkeep.Given", spec := "given", inPlace := ["internal/reflectlite.ValueOf", "(internal/reflectlite.Value).Type", "(internal/reflectlite.Value).IsNil", "internal/reflectlite.TypeOf", "(internal/reflectlite.Value).Elem", "(internal/reflectlite.Value).Set", "slices.overlaps[sealstream/api.Range]"], unfollowed := true, recurses := true, named := ["errors.errorType"], leaving := true, apart := false, laid := [("errors.errorType", laid_errors_errorType)] }
def GivenSaid : Prop := givenRow.holds Tryz.pinned (OpenSpec.ofChange givenSpec)

/-- ITS FALSE NEIGHBOUR: 'it returns false'. Refute it at one input. -/
def givenWrong : ChangeSpec := { name := "given", fn := fun _ => fun
  | [d1, d2, d3] => { results := [.lit (.bool false)], args := [d1, d2, d3] }
  | _ => none }
def GivenWrongFalsely : Prop := givenRow.holds Tryz.pinned (OpenSpec.ofChange givenWrong)

/-- 'sealstreamlaw.Served': WHATEVER THE INPUT: true; the input reads as it did. -/
def servedSpec : ChangeSpec := { name := "served", fn := fun _ => fun
  | [d1, d2, d3, d4, d5] => { results := [.lit (.bool true)], args := [d1, d2, d3, d4, d5] }
  | _ => none }
def servedRow : OpenClaim := { program := "ytgfdlpcdjklcoaagreatdoor", sum := "cfc33d4eb17d058cbde482b906520f00ee8e402e8eb9beaccbaf73c3b1f3abc2", func := "sealstream/sealstreamlaw.Served", spec := "served", inPlace := ["internal/reflectlite.ValueOf", "(internal/reflectlite.Value).Type", "(internal/reflectlite.Value).IsNil", "internal/reflectlite.TypeOf", "(internal/reflectlite.Value).Elem", "(internal/reflectlite.Value).Set", "slices.overlaps[sealstream/api.Range]"], unfollowed := true, recurses := true, named := ["errors.errorType"], leaving := true, apart := false, laid := [("errors.errorType", laid_errors_errorType)] }
def ServedSaid : Prop := servedRow.holds Tryz.pinned (OpenSpec.ofChange servedSpec)

/-- ITS FALSE NEIGHBOUR: 'it returns false'. Refute it at one input. -/
def servedWrong : ChangeSpec := { name := "served", fn := fun _ => fun
  | [d1, d2, d3, d4, d5] => { results := [.lit (.bool false)], args := [d1, d2, d3, d4, d5] }
  | _ => none }
def ServedWrongFalsely : Prop := servedRow.holds Tryz.pinned (OpenSpec.ofChange servedWrong)

/-- 'sealstreamkeep.Left': WHATEVER THE INPUT: true; the input reads as it did. -/
def leftSpec : ChangeSpec := { name := "left", fn := fun _ => fun
  | [d1, d2, d3, d4, d5] => { results := [.lit (.bool true)], args := [d1, d2, d3, d4, d5] }
  | _ => none }
def leftRow : OpenClaim := { program := "ytgfdlpcdjklcoaagreatdoor", sum := "cfc33d4eb17d058cbde482b906520f00ee8e402e8eb9beaccbaf73c3b1f3abc2", func := "sealstream/sealstreamkeep.Left", spec := "left", inPlace := ["internal/reflectlite.ValueOf", "(internal/reflectlite.Value).Type", "(internal/reflectlite.Value).IsNil", "internal/reflectlite.TypeOf", "(internal/reflectlite.Value).Elem", "(internal/reflectlite.Value).Set", "slices.overlaps[sealstream/api.Range]"], unfollowed := true, recurses := true, named := ["errors.errorType"], leaving := true, apart := false, laid := [("errors.errorType", laid_errors_errorType)] }
def LeftSaid : Prop := leftRow.holds Tryz.pinned (OpenSpec.ofChange leftSpec)

/-- ITS FALSE NEIGHBOUR: 'it returns false'. Refute it at one input. -/
def leftWrong : ChangeSpec := { name := "left", fn := fun _ => fun
  | [d1, d2, d3, d4, d5] => { results := [.lit (.bool false)], args := [d1, d2, d3, d4, d5] }
  | _ => none }
def LeftWrongFalsely : Prop := leftRow.holds Tryz.pinned (OpenSpec.ofChange leftWrong)

/-- 'sealstreamkeep.Waits': WHATEVER THE INPUT: true; the input reads as it did. -/
def waitsSpec : ChangeSpec := { name := "waits", fn := fun _ => fun
  | [d1, d2, d3] => { results := [.lit (.bool true)], args := [d1, d2, d3] }
  | _ => none }
def waitsRow : OpenClaim := { program := "ytgfdlpcdjklcoaagreatdoor", sum := "cfc33d4eb17d058cbde482b906520f00ee8e402e8eb9beaccbaf73c3b1f3abc2", func := "sealstream/sealstreamkeep.Waits", spec := "waits", inPlace := ["internal/reflectlite.ValueOf", "(internal/reflectlite.Value).Type", "(internal/reflectlite.Value).IsNil", "internal/reflectlite.TypeOf", "(internal/reflectlite.Value).Elem", "(internal/reflectlite.Value).Set", "slices.overlaps[sealstream/api.Range]"], unfollowed := true, recurses := true, named := ["errors.errorType"], leaving := true, apart := false, laid := [("errors.errorType", laid_errors_errorType)] }
def WaitsSaid : Prop := waitsRow.holds Tryz.pinned (OpenSpec.ofChange waitsSpec)

/-- ITS FALSE NEIGHBOUR: 'it returns false'. Refute it at one input. -/
def waitsWrong : ChangeSpec := { name := "waits", fn := fun _ => fun
  | [d1, d2, d3] => { results := [.lit (.bool false)], args := [d1, d2, d3] }
  | _ => none }
def WaitsWrongFalsely : Prop := waitsRow.holds Tryz.pinned (OpenSpec.ofChange waitsWrong)

/- THE SECOND FORM. 'bulk': how many values and letters a reading holds, each counted each time it is reached (what is shared counts as often as it is met; a slice's spare places count too). A statement '..UptoSaid' is the law's where the arguments, and the package variables that the reading takes, are together of bulk at most 1048576: NARROWER than '..Said'. Prove '..Said' where nothing that the law and all that it calls make is longer than what came in: it says more and counts as full. Else prove '..UptoSaid'. A law counts once. -/
mutual
def uptoBulk {H : Type} : DataW H → Nat
  | .lit (.string bytes) => bytes.length + 1
  | .lit _ => 1
  | .nil => 1
  | .ptr d => uptoBulk d + 1
  | .slice elems spare => uptoBulkAll elems + uptoBulkAll spare + 1
  | .agg parts => uptoBulkAll parts + 1
  | .iface _ d => uptoBulk d + 1
  | .map entries => uptoBulkEntries entries + 1
  | .held _ => 1
def uptoBulkAll {H : Type} : List (DataW H) → Nat
  | [] => 0
  | d :: r => uptoBulk d + uptoBulkAll r
def uptoBulkEntries {H : Type} : List (Lit × DataW H) → Nat
  | [] => 0
  | x :: r => uptoBulkEntry x + uptoBulkEntries r
def uptoBulkEntry {H : Type} : Lit × DataW H → Nat
  | (.string bytes, d) => bytes.length + uptoBulk d + 1
  | (_, d) => uptoBulk d + 1
 end
def uptoSmall : (H : Type) → List (DataW H) → Bool := fun _ ds => decide (uptoBulkAll ds ≤ 1048576)
def OpenSpec.upto (s : _root_.Go.ChangeSpec) : _root_.Go.OpenSpec := { _root_.Go.OpenSpec.ofChange s with cond := some uptoSmall }

/-- 'sealstreamlaw.Streamed', WHERE WHAT IT READS IS OF BULK AT MOST 1048576: true; the input reads as it did. -/
def streamedUptoRow : OpenClaim := { program := "ytgfdlpcdjklcoaagreatdoor", sum := "cfc33d4eb17d058cbde482b906520f00ee8e402e8eb9beaccbaf73c3b1f3abc2", func := "sealstream/sealstreamlaw.Streamed", spec := "streamed", inPlace := ["internal/reflectlite.ValueOf", "(internal/reflectlite.Value).Type", "(internal/reflectlite.Value).IsNil", "internal/reflectlite.TypeOf", "(internal/reflectlite.Value).Elem", "(internal/reflectlite.Value).Set", "slices.overlaps[sealstream/api.Range]"], unfollowed := true, recurses := true, named := ["errors.errorType"], leaving := true, apart := false, laid := [("errors.errorType", laid_errors_errorType)], narrowed := true }
def StreamedUptoSaid : Prop := streamedUptoRow.holds Tryz.pinned (OpenSpec.upto streamedSpec)

/-- 'sealstreamlaw.Sided', WHERE WHAT IT READS IS OF BULK AT MOST 1048576: true; the input reads as it did. -/
def sidedUptoRow : OpenClaim := { program := "ytgfdlpcdjklcoaagreatdoor", sum := "cfc33d4eb17d058cbde482b906520f00ee8e402e8eb9beaccbaf73c3b1f3abc2", func := "sealstream/sealstreamlaw.Sided", spec := "sided", inPlace := ["internal/reflectlite.ValueOf", "(internal/reflectlite.Value).Type", "(internal/reflectlite.Value).IsNil", "internal/reflectlite.TypeOf", "(internal/reflectlite.Value).Elem", "(internal/reflectlite.Value).Set", "slices.overlaps[sealstream/api.Range]"], unfollowed := true, recurses := true, named := ["errors.errorType"], leaving := true, apart := false, laid := [("errors.errorType", laid_errors_errorType)], narrowed := true }
def SidedUptoSaid : Prop := sidedUptoRow.holds Tryz.pinned (OpenSpec.upto sidedSpec)

/-- 'sealstreamkeep.Carried', WHERE WHAT IT READS IS OF BULK AT MOST 1048576: true; the input reads as it did. -/
def carriedUptoRow : OpenClaim := { program := "ytgfdlpcdjklcoaagreatdoor", sum := "cfc33d4eb17d058cbde482b906520f00ee8e402e8eb9beaccbaf73c3b1f3abc2", func := "sealstream/sealstreamkeep.Carried", spec := "carried", inPlace := ["internal/reflectlite.ValueOf", "(internal/reflectlite.Value).Type", "(internal/reflectlite.Value).IsNil", "internal/reflectlite.TypeOf", "(internal/reflectlite.Value).Elem", "(internal/reflectlite.Value).Set", "slices.overlaps[sealstream/api.Range]"], unfollowed := true, recurses := true, named := ["errors.errorType"], leaving := true, apart := false, laid := [("errors.errorType", laid_errors_errorType)], narrowed := true }
def CarriedUptoSaid : Prop := carriedUptoRow.holds Tryz.pinned (OpenSpec.upto carriedSpec)

/-- 'sealstreamkeep.Live', WHERE WHAT IT READS IS OF BULK AT MOST 1048576: true; the input reads as it did. -/
def liveUptoRow : OpenClaim := { program := "ytgfdlpcdjklcoaagreatdoor", sum := "cfc33d4eb17d058cbde482b906520f00ee8e402e8eb9beaccbaf73c3b1f3abc2", func := "sealstream/sealstreamkeep.Live", spec := "live", inPlace := ["internal/reflectlite.ValueOf", "(internal/reflectlite.Value).Type", "(internal/reflectlite.Value).IsNil", "internal/reflectlite.TypeOf", "(internal/reflectlite.Value).Elem", "(internal/reflectlite.Value).Set", "slices.overlaps[sealstream/api.Range]"], unfollowed := true, recurses := true, named := ["errors.errorType"], leaving := true, apart := false, laid := [("errors.errorType", laid_errors_errorType)], narrowed := true }
def LiveUptoSaid : Prop := liveUptoRow.holds Tryz.pinned (OpenSpec.upto liveSpec)

/-- 'sealstreamkeep.Given', WHERE WHAT IT READS IS OF BULK AT MOST 1048576: true; the input reads as it did. -/
def givenUptoRow : OpenClaim := { program := "ytgfdlpcdjklcoaagreatdoor", sum := "cfc33d4eb17d058cbde482b906520f00ee8e402e8eb9beaccbaf73c3b1f3abc2", func := "sealstream/sealstreamkeep.Given", spec := "given", inPlace := ["internal/reflectlite.ValueOf", "(internal/reflectlite.Value).Type", "(internal/reflectlite.Value).IsNil", "internal/reflectlite.TypeOf", "(internal/reflectlite.Value).Elem", "(internal/reflectlite.Value).Set", "slices.overlaps[sealstream/api.Range]"], unfollowed := true, recurses := true, named := ["errors.errorType"], leaving := true, apart := false, laid := [("errors.errorType", laid_errors_errorType)], narrowed := true }
def GivenUptoSaid : Prop := givenUptoRow.holds Tryz.pinned (OpenSpec.upto givenSpec)

/-- 'sealstreamlaw.Served', WHERE WHAT IT READS IS OF BULK AT MOST 1048576: true; the input reads as it did. -/
def servedUptoRow : OpenClaim := { program := "ytgfdlpcdjklcoaagreatdoor", sum := "cfc33d4eb17d058cbde482b906520f00ee8e402e8eb9beaccbaf73c3b1f3abc2", func := "sealstream/sealstreamlaw.Served", spec := "served", inPlace := ["internal/reflectlite.ValueOf", "(internal/reflectlite.Value).Type", "(internal/reflectlite.Value).IsNil", "internal/reflectlite.TypeOf", "(internal/reflectlite.Value).Elem", "(internal/reflectlite.Value).Set", "slices.overlaps[sealstream/api.Range]"], unfollowed := true, recurses := true, named := ["errors.errorType"], leaving := true, apart := false, laid := [("errors.errorType", laid_errors_errorType)], narrowed := true }
def ServedUptoSaid : Prop := servedUptoRow.holds Tryz.pinned (OpenSpec.upto servedSpec)

/-- 'sealstreamkeep.Left', WHERE WHAT IT READS IS OF BULK AT MOST 1048576: true; the input reads as it did. -/
def leftUptoRow : OpenClaim := { program := "ytgfdlpcdjklcoaagreatdoor", sum := "cfc33d4eb17d058cbde482b906520f00ee8e402e8eb9beaccbaf73c3b1f3abc2", func := "sealstream/sealstreamkeep.Left", spec := "left", inPlace := ["internal/reflectlite.ValueOf", "(internal/reflectlite.Value).Type", "(internal/reflectlite.Value).IsNil", "internal/reflectlite.TypeOf", "(internal/reflectlite.Value).Elem", "(internal/reflectlite.Value).Set", "slices.overlaps[sealstream/api.Range]"], unfollowed := true, recurses := true, named := ["errors.errorType"], leaving := true, apart := false, laid := [("errors.errorType", laid_errors_errorType)], narrowed := true }
def LeftUptoSaid : Prop := leftUptoRow.holds Tryz.pinned (OpenSpec.upto leftSpec)

/-- 'sealstreamkeep.Waits', WHERE WHAT IT READS IS OF BULK AT MOST 1048576: true; the input reads as it did. -/
def waitsUptoRow : OpenClaim := { program := "ytgfdlpcdjklcoaagreatdoor", sum := "cfc33d4eb17d058cbde482b906520f00ee8e402e8eb9beaccbaf73c3b1f3abc2", func := "sealstream/sealstreamkeep.Waits", spec := "waits", inPlace := ["internal/reflectlite.ValueOf", "(internal/reflectlite.Value).Type", "(internal/reflectlite.Value).IsNil", "internal/reflectlite.TypeOf", "(internal/reflectlite.Value).Elem", "(internal/reflectlite.Value).Set", "slices.overlaps[sealstream/api.Range]"], unfollowed := true, recurses := true, named := ["errors.errorType"], leaving := true, apart := false, laid := [("errors.errorType", laid_errors_errorType)], narrowed := true }
def WaitsUptoSaid : Prop := waitsUptoRow.holds Tryz.pinned (OpenSpec.upto waitsSpec)

end Rows
end Go.Proofs.YtgfdlpcdjklcoaaGreatDoor
