/-
  NARROWER THAN 'FOR EVERY INPUT', by the rows' own cells (each row's printed sentence says how): ValidChecks: loops, laid · ValidBodies: loops, laid · ValidIdle: loops, laid · ValidDead: laid · ValidOuter: loops, laid · ValidLabels: laid.
  DERIVED. THE GIVEN ROWS OF THIS SEAT. 6 by the template 'for every input the law returns true; each argument reads behind the call as it read before'; 0 by the template 'total and deterministic' (their statements: YtablleokoifolaaGreatDoorTotals.lean).
  GIVEN WITH THE SEED: the statements are not yours to turn. If you find one false, say at which input.
  Laid BY PROGRAM, IN A SANDBOX (cutbox-rows.mjs): the forced cells as the released guide's own fill.sh prints them over the translation b6e5b5a6a0ea713c… (all of the seat's roots in one cut). By AI agents, Wed Nov 11 2026. No macro, syntax, notation, axiom, sorry.
-/
import Derived.Test.YtablleokoifolaaGreatDoorChecked
import GoSem.Claim
import GoSem.ClaimJoined
import GoSem.ClaimMapViews
import Derived.JoinedTies
import Derived.KernelRfl
namespace Go.Proofs.YtablleokoifolaaGreatDoor
/- THE CELL 'sum', in the pinned program and in every row, IS THE sha256 OF THE DUMP (.gsa) THAT YtablleokoifolaaGreatDoorProg.lean LOADS. Nothing in Lean hashes anything: it is a label: what it is worth is what the hold of that sum in a sandbox is worth. -/
noncomputable def Tryz.pinned : Pinned := { name := "ytablleokoifolaagreatdoor", sum := "b6e5b5a6a0ea713cc117ac8601d85e9c44afa97cf98366cff91d86c7bc8e4795", checked := Tryz.checked }
namespace Rows
def none {H : Type} : Left H := { results := [], args := [] }

/- WHAT THE LISTED PACKAGE-LEVEL VARIABLES READ AS WHEN THE CALL BEGINS. Each datum BY PROGRAM (the guide's laid-datum.mjs) off the statement by which the dump's own 'gosem.cut.vars' lays the variable. In a bare row this is a premise. The card (YtablleokoifolaaGreatDoorCards.lean) ties it to the program's text. -/
def laid_errors_errorType {H : Type} : DataW H := .iface "internal/reflectlite.rtype" (.agg [.ptr (.lit (.string [101, 114, 114, 111, 114]))])

/-- 'mandrellaw08.ValidChecks': WHATEVER THE INPUT: true; the input reads as it did. -/
def validChecksSpec : ChangeSpec := { name := "validChecks", fn := fun _ => fun
  | [d1, d2] => { results := [.lit (.bool true)], args := [d1, d2] }
  | _ => none }
def validChecksRow : OpenClaim := { program := "ytablleokoifolaagreatdoor", sum := "b6e5b5a6a0ea713cc117ac8601d85e9c44afa97cf98366cff91d86c7bc8e4795", func := "mandrel/mandrellaw08.ValidChecks", spec := "validChecks", inPlace := ["internal/bytealg.IndexByteString", "internal/bytealg.IndexString", "internal/reflectlite.ValueOf", "(internal/reflectlite.Value).Type", "(internal/reflectlite.Value).IsNil", "internal/reflectlite.TypeOf", "(internal/reflectlite.Value).Elem", "(internal/reflectlite.Value).Set"], unfollowed := true, recurses := true, named := ["internal/bytealg.MaxLen", "errors.errorType"], loops := true, apart := false, laid := [("errors.errorType", laid_errors_errorType)] }
def ValidChecksSaid : Prop := validChecksRow.holds Tryz.pinned (OpenSpec.ofChange validChecksSpec)

/-- ITS FALSE NEIGHBOUR: 'it returns false'. Refute it at one input. -/
def validChecksWrong : ChangeSpec := { name := "validChecks", fn := fun _ => fun
  | [d1, d2] => { results := [.lit (.bool false)], args := [d1, d2] }
  | _ => none }
def ValidChecksWrongFalsely : Prop := validChecksRow.holds Tryz.pinned (OpenSpec.ofChange validChecksWrong)

/-- 'mandrellaw08.ValidBodies': WHATEVER THE INPUT: true; the input reads as it did. -/
def validBodiesSpec : ChangeSpec := { name := "validBodies", fn := fun _ => fun
  | [d1, d2, d3] => { results := [.lit (.bool true)], args := [d1, d2, d3] }
  | _ => none }
def validBodiesRow : OpenClaim := { program := "ytablleokoifolaagreatdoor", sum := "b6e5b5a6a0ea713cc117ac8601d85e9c44afa97cf98366cff91d86c7bc8e4795", func := "mandrel/mandrellaw08.ValidBodies", spec := "validBodies", inPlace := ["internal/bytealg.IndexByteString", "internal/bytealg.IndexString", "internal/reflectlite.ValueOf", "(internal/reflectlite.Value).Type", "(internal/reflectlite.Value).IsNil", "internal/reflectlite.TypeOf", "(internal/reflectlite.Value).Elem", "(internal/reflectlite.Value).Set"], unfollowed := true, recurses := true, named := ["internal/bytealg.MaxLen", "errors.errorType"], loops := true, apart := false, laid := [("errors.errorType", laid_errors_errorType)] }
def ValidBodiesSaid : Prop := validBodiesRow.holds Tryz.pinned (OpenSpec.ofChange validBodiesSpec)

/-- ITS FALSE NEIGHBOUR: 'it returns false'. Refute it at one input. -/
def validBodiesWrong : ChangeSpec := { name := "validBodies", fn := fun _ => fun
  | [d1, d2, d3] => { results := [.lit (.bool false)], args := [d1, d2, d3] }
  | _ => none }
def ValidBodiesWrongFalsely : Prop := validBodiesRow.holds Tryz.pinned (OpenSpec.ofChange validBodiesWrong)

/-- 'mandrellaw08.ValidIdle': WHATEVER THE INPUT: true; the input reads as it did. -/
def validIdleSpec : ChangeSpec := { name := "validIdle", fn := fun _ => fun
  | [d1, d2, d3] => { results := [.lit (.bool true)], args := [d1, d2, d3] }
  | _ => none }
def validIdleRow : OpenClaim := { program := "ytablleokoifolaagreatdoor", sum := "b6e5b5a6a0ea713cc117ac8601d85e9c44afa97cf98366cff91d86c7bc8e4795", func := "mandrel/mandrellaw08.ValidIdle", spec := "validIdle", inPlace := ["internal/bytealg.IndexByteString", "internal/bytealg.IndexString", "internal/reflectlite.ValueOf", "(internal/reflectlite.Value).Type", "(internal/reflectlite.Value).IsNil", "internal/reflectlite.TypeOf", "(internal/reflectlite.Value).Elem", "(internal/reflectlite.Value).Set"], unfollowed := true, recurses := true, named := ["internal/bytealg.MaxLen", "errors.errorType"], loops := true, apart := false, laid := [("errors.errorType", laid_errors_errorType)] }
def ValidIdleSaid : Prop := validIdleRow.holds Tryz.pinned (OpenSpec.ofChange validIdleSpec)

/-- ITS FALSE NEIGHBOUR: 'it returns false'. Refute it at one input. -/
def validIdleWrong : ChangeSpec := { name := "validIdle", fn := fun _ => fun
  | [d1, d2, d3] => { results := [.lit (.bool false)], args := [d1, d2, d3] }
  | _ => none }
def ValidIdleWrongFalsely : Prop := validIdleRow.holds Tryz.pinned (OpenSpec.ofChange validIdleWrong)

/-- 'mandrellaw08.ValidDead': WHATEVER THE INPUT: true; the input reads as it did. -/
def validDeadSpec : ChangeSpec := { name := "validDead", fn := fun _ => fun
  | [d1, d2] => { results := [.lit (.bool true)], args := [d1, d2] }
  | _ => none }
def validDeadRow : OpenClaim := { program := "ytablleokoifolaagreatdoor", sum := "b6e5b5a6a0ea713cc117ac8601d85e9c44afa97cf98366cff91d86c7bc8e4795", func := "mandrel/mandrellaw08.ValidDead", spec := "validDead", inPlace := ["internal/bytealg.IndexByteString", "internal/bytealg.IndexString", "internal/reflectlite.ValueOf", "(internal/reflectlite.Value).Type", "(internal/reflectlite.Value).IsNil", "internal/reflectlite.TypeOf", "(internal/reflectlite.Value).Elem", "(internal/reflectlite.Value).Set"], unfollowed := true, recurses := true, named := ["internal/bytealg.MaxLen", "errors.errorType"], apart := false, laid := [("errors.errorType", laid_errors_errorType)] }
def ValidDeadSaid : Prop := validDeadRow.holds Tryz.pinned (OpenSpec.ofChange validDeadSpec)

/-- ITS FALSE NEIGHBOUR: 'it returns false'. Refute it at one input. -/
def validDeadWrong : ChangeSpec := { name := "validDead", fn := fun _ => fun
  | [d1, d2] => { results := [.lit (.bool false)], args := [d1, d2] }
  | _ => none }
def ValidDeadWrongFalsely : Prop := validDeadRow.holds Tryz.pinned (OpenSpec.ofChange validDeadWrong)

/-- 'mandrellaw08.ValidOuter': WHATEVER THE INPUT: true; the input reads as it did. -/
def validOuterSpec : ChangeSpec := { name := "validOuter", fn := fun _ => fun
  | [d1, d2] => { results := [.lit (.bool true)], args := [d1, d2] }
  | _ => none }
def validOuterRow : OpenClaim := { program := "ytablleokoifolaagreatdoor", sum := "b6e5b5a6a0ea713cc117ac8601d85e9c44afa97cf98366cff91d86c7bc8e4795", func := "mandrel/mandrellaw08.ValidOuter", spec := "validOuter", inPlace := ["internal/bytealg.IndexByteString", "internal/bytealg.IndexString", "internal/reflectlite.ValueOf", "(internal/reflectlite.Value).Type", "(internal/reflectlite.Value).IsNil", "internal/reflectlite.TypeOf", "(internal/reflectlite.Value).Elem", "(internal/reflectlite.Value).Set"], unfollowed := true, recurses := true, named := ["internal/bytealg.MaxLen", "errors.errorType"], loops := true, apart := false, laid := [("errors.errorType", laid_errors_errorType)] }
def ValidOuterSaid : Prop := validOuterRow.holds Tryz.pinned (OpenSpec.ofChange validOuterSpec)

/-- ITS FALSE NEIGHBOUR: 'it returns false'. Refute it at one input. -/
def validOuterWrong : ChangeSpec := { name := "validOuter", fn := fun _ => fun
  | [d1, d2] => { results := [.lit (.bool false)], args := [d1, d2] }
  | _ => none }
def ValidOuterWrongFalsely : Prop := validOuterRow.holds Tryz.pinned (OpenSpec.ofChange validOuterWrong)

/-- 'mandrellaw08.ValidLabels': WHATEVER THE INPUT: true; the input reads as it did. -/
def validLabelsSpec : ChangeSpec := { name := "validLabels", fn := fun _ => fun
  | [d1, d2, d3] => { results := [.lit (.bool true)], args := [d1, d2, d3] }
  | _ => none }
def validLabelsRow : OpenClaim := { program := "ytablleokoifolaagreatdoor", sum := "b6e5b5a6a0ea713cc117ac8601d85e9c44afa97cf98366cff91d86c7bc8e4795", func := "mandrel/mandrellaw08.ValidLabels", spec := "validLabels", inPlace := ["internal/bytealg.IndexByteString", "internal/bytealg.IndexString", "internal/reflectlite.ValueOf", "(internal/reflectlite.Value).Type", "(internal/reflectlite.Value).IsNil", "internal/reflectlite.TypeOf", "(internal/reflectlite.Value).Elem", "(internal/reflectlite.Value).Set"], unfollowed := true, recurses := true, named := ["internal/bytealg.MaxLen", "errors.errorType"], apart := false, laid := [("errors.errorType", laid_errors_errorType)] }
def ValidLabelsSaid : Prop := validLabelsRow.holds Tryz.pinned (OpenSpec.ofChange validLabelsSpec)

/-- ITS FALSE NEIGHBOUR: 'it returns false'. Refute it at one input. -/
def validLabelsWrong : ChangeSpec := { name := "validLabels", fn := fun _ => fun
  | [d1, d2, d3] => { results := [.lit (.bool false)], args := [d1, d2, d3] }
  | _ => none }
def ValidLabelsWrongFalsely : Prop := validLabelsRow.holds Tryz.pinned (OpenSpec.ofChange validLabelsWrong)

/- THE SECOND FORM. 'bulk': how many values and letters a reading holds, each counted each time it is reached (what is shared counts as often as it is met; a slice's spare places count too). A statement '..UptoSaid' is the law's where the arguments, and the package variables that the reading takes, are together of bulk at most 1048576: NARROWER than '..Said'. Prove '..Said' where nothing that the law and all that it calls make is longer than what came in: it says more and counts as full. Else prove '..UptoSaid'. A law counts once. -/
mutual
def uptoBulk {H : Type} : DataW H → Nat
  | .lit (.string bytes) => bytes.length + 1
  | .lit _ => 1
  | .nil => 1
  | .ptr d => uptoBulk d + 1
  | .slice elems spare => uptoBulkAll elems + uptoBulkAll spare + 1
  | .agg parts => uptoBulkAll parts + 1
  | .iface _ d => uptoBulk d + 1
  | .map entries => uptoBulkEntries entries + 1
  | .held _ => 1
def uptoBulkAll {H : Type} : List (DataW H) → Nat
  | [] => 0
  | d :: r => uptoBulk d + uptoBulkAll r
def uptoBulkEntries {H : Type} : List (Lit × DataW H) → Nat
  | [] => 0
  | x :: r => uptoBulkEntry x + uptoBulkEntries r
def uptoBulkEntry {H : Type} : Lit × DataW H → Nat
  | (.string bytes, d) => bytes.length + uptoBulk d + 1
  | (_, d) => uptoBulk d + 1
 end
def uptoSmall : (H : Type) → List (DataW H) → Bool := fun _ ds => decide (uptoBulkAll ds ≤ 1048576)
def OpenSpec.upto (s : _root_.Go.ChangeSpec) : _root_.Go.OpenSpec := { _root_.Go.OpenSpec.ofChange s with cond := some uptoSmall }

/-- 'mandrellaw08.ValidChecks', WHERE WHAT IT READS IS OF BULK AT MOST 1048576: true; the input reads as it did. -/
def validChecksUptoRow : OpenClaim := { program := "ytablleokoifolaagreatdoor", sum := "b6e5b5a6a0ea713cc117ac8601d85e9c44afa97cf98366cff91d86c7bc8e4795", func := "mandrel/mandrellaw08.ValidChecks", spec := "validChecks", inPlace := ["internal/bytealg.IndexByteString", "internal/bytealg.IndexString", "internal/reflectlite.ValueOf", "(internal/reflectlite.Value).Type", "(internal/reflectlite.Value).IsNil", "internal/reflectlite.TypeOf", "(internal/reflectlite.Value).Elem", "(internal/reflectlite.Value).Set"], unfollowed := true, recurses := true, named := ["internal/bytealg.MaxLen", "errors.errorType"], loops := true, apart := false, laid := [("errors.errorType", laid_errors_errorType)], narrowed := true }
def ValidChecksUptoSaid : Prop := validChecksUptoRow.holds Tryz.pinned (OpenSpec.upto validChecksSpec)

/-- 'mandrellaw08.ValidBodies', WHERE WHAT IT READS IS OF BULK AT MOST 1048576: true; the input reads as it did. -/
def validBodiesUptoRow : OpenClaim := { program := "ytablleokoifolaagreatdoor", sum := "b6e5b5a6a0ea713cc117ac8601d85e9c44afa97cf98366cff91d86c7bc8e4795", func := "mandrel/mandrellaw08.ValidBodies", spec := "validBodies", inPlace := ["internal/bytealg.IndexByteString", "internal/bytealg.IndexString", "internal/reflectlite.ValueOf", "(internal/reflectlite.Value).Type", "(internal/reflectlite.Value).IsNil", "internal/reflectlite.TypeOf", "(internal/reflectlite.Value).Elem", "(internal/reflectlite.Value).Set"], unfollowed := true, recurses := true, named := ["internal/bytealg.MaxLen", "errors.errorType"], loops := true, apart := false, laid := [("errors.errorType", laid_errors_errorType)], narrowed := true }
def ValidBodiesUptoSaid : Prop := validBodiesUptoRow.holds Tryz.pinned (OpenSpec.upto validBodiesSpec)

/-- 'mandrellaw08.ValidIdle', WHERE WHAT IT READS IS OF BULK AT MOST 1048576: true; the input reads as it did. -/
def validIdleUptoRow : OpenClaim := { program := "ytablleokoifolaagreatdoor", sum := "b6e5b5a6a0ea713cc117ac8601d85e9c44afa97cf98366cff91d86c7bc8e4795", func := "mandrel/mandrellaw08.ValidIdle", spec := "validIdle", inPlace := ["internal/bytealg.IndexByteString", "internal/bytealg.IndexString", "internal/reflectlite.ValueOf", "(internal/reflectlite.Value).Type", "(internal/reflectlite.Value).IsNil", "internal/reflectlite.TypeOf", "(internal/reflectlite.Value).Elem", "(internal/reflectlite.Value).Set"], unfollowed := true, recurses := true, named := ["internal/bytealg.MaxLen", "errors.errorType"], loops := true, apart := false, laid := [("errors.errorType", laid_errors_errorType)], narrowed := true }
def ValidIdleUptoSaid : Prop := validIdleUptoRow.holds Tryz.pinned (OpenSpec.upto validIdleSpec)

/-- 'mandrellaw08.ValidDead', WHERE WHAT IT READS IS OF BULK AT MOST 1048576: true; the input reads as it did. -/
def validDeadUptoRow : OpenClaim := { program := "ytablleokoifolaagreatdoor", sum := "b6e5b5a6a0ea713cc117ac8601d85e9c44afa97cf98366cff91d86c7bc8e4795", func := "mandrel/mandrellaw08.ValidDead", spec := "validDead", inPlace := ["internal/bytealg.IndexByteString", "internal/bytealg.IndexString", "internal/reflectlite.ValueOf", "(internal/reflectlite.Value).Type", "(internal/reflectlite.Value).IsNil", "internal/reflectlite.TypeOf", "(internal/reflectlite.Value).Elem", "(internal/reflectlite.Value).Set"], unfollowed := true, recurses := true, named := ["internal/bytealg.MaxLen", "errors.errorType"], apart := false, laid := [("errors.errorType", laid_errors_errorType)], narrowed := true }
def ValidDeadUptoSaid : Prop := validDeadUptoRow.holds Tryz.pinned (OpenSpec.upto validDeadSpec)

/-- 'mandrellaw08.ValidOuter', WHERE WHAT IT READS IS OF BULK AT MOST 1048576: true; the input reads as it did. -/
def validOuterUptoRow : OpenClaim := { program := "ytablleokoifolaagreatdoor", sum := "b6e5b5a6a0ea713cc117ac8601d85e9c44afa97cf98366cff91d86c7bc8e4795", func := "mandrel/mandrellaw08.ValidOuter", spec := "validOuter", inPlace := ["internal/bytealg.IndexByteString", "internal/bytealg.IndexString", "internal/reflectlite.ValueOf", "(internal/reflectlite.Value).Type", "(internal/reflectlite.Value).IsNil", "internal/reflectlite.TypeOf", "(internal/reflectlite.Value).Elem", "(internal/reflectlite.Value).Set"], unfollowed := true, recurses := true, named := ["internal/bytealg.MaxLen", "errors.errorType"], loops := true, apart := false, laid := [("errors.errorType", laid_errors_errorType)], narrowed := true }
def ValidOuterUptoSaid : Prop := validOuterUptoRow.holds Tryz.pinned (OpenSpec.upto validOuterSpec)

/-- 'mandrellaw08.ValidLabels', WHERE WHAT IT READS IS OF BULK AT MOST 1048576: true; the input reads as it did. -/
def validLabelsUptoRow : OpenClaim := { program := "ytablleokoifolaagreatdoor", sum := "b6e5b5a6a0ea713cc117ac8601d85e9c44afa97cf98366cff91d86c7bc8e4795", func := "mandrel/mandrellaw08.ValidLabels", spec := "validLabels", inPlace := ["internal/bytealg.IndexByteString", "internal/bytealg.IndexString", "internal/reflectlite.ValueOf", "(internal/reflectlite.Value).Type", "(internal/reflectlite.Value).IsNil", "internal/reflectlite.TypeOf", "(internal/reflectlite.Value).Elem", "(internal/reflectlite.Value).Set"], unfollowed := true, recurses := true, named := ["internal/bytealg.MaxLen", "errors.errorType"], apart := false, laid := [("errors.errorType", laid_errors_errorType)], narrowed := true }
def ValidLabelsUptoSaid : Prop := validLabelsUptoRow.holds Tryz.pinned (OpenSpec.upto validLabelsSpec)

end Rows
end Go.Proofs.YtablleokoifolaaGreatDoor
