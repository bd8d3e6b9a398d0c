/-
  NARROWER THAN 'FOR EVERY INPUT', by the rows' own cells (each row's printed sentence says how): DeadMay: laid · DeadChains: laid · LiveLoop: laid.
  DERIVED. THE GIVEN ROWS OF THIS SEAT. 3 by the template 'for every input the law returns true; each argument reads behind the call as it read before'; 0 by the template 'total and deterministic' (their statements: YtdniefnjgkhkeaaDoorTotals.lean).
  GIVEN WITH THE SEED: the statements are not yours to turn. If you find one false, say at which input.
  Laid BY PROGRAM, IN A SANDBOX (cutbox-rows.mjs): the forced cells as the released guide's own fill.sh prints them over the translation d3af53c72f53d3cd… (all of the seat's roots in one cut). By AI agents, Wed Nov 11 2026. No macro, syntax, notation, axiom, sorry.
-/
import Derived.Test.YtdniefnjgkhkeaaDoorChecked
import GoSem.Claim
import GoSem.ClaimJoined
import GoSem.ClaimMapViews
import Derived.JoinedTies
import Derived.KernelRfl
namespace Go.Proofs.YtdniefnjgkhkeaaDoor
/- THE CELL 'sum', in the pinned program and in every row, IS THE sha256 OF THE DUMP (.gsa) THAT YtdniefnjgkhkeaaDoorProg.lean LOADS. Nothing in Lean hashes anything: it is a label: what it is worth is what the hold of that sum in a sandbox is worth. -/
noncomputable def Tryd.pinned : Pinned := { name := "ytdniefnjgkhkeaadoor", sum := "d3af53c72f53d3cdc03879642bb59c032604609950aa54216954bade30f97ee8", checked := Tryd.checked }
namespace Rows
def none {H : Type} : Left H := { results := [], args := [] }

/- WHAT THE LISTED PACKAGE-LEVEL VARIABLES READ AS WHEN THE CALL BEGINS. Each datum BY PROGRAM (the guide's laid-datum.mjs) off the statement by which the dump's own 'gosem.cut.vars' lays the variable. In a bare row this is a premise. The card (YtdniefnjgkhkeaaDoorCards.lean) ties it to the program's text. -/
def laid_errors_errorType {H : Type} : DataW H := .iface "internal/reflectlite.rtype" (.agg [.ptr (.lit (.string [101, 114, 114, 111, 114]))])

/-- 'swagelaw17.DeadMay': WHATEVER THE INPUT: true; the input reads as it did. -/
def deadMaySpec : ChangeSpec := { name := "deadMay", fn := fun _ => fun
  | [d1, d2] => { results := [.lit (.bool true)], args := [d1, d2] }
  | _ => none }
def deadMayRow : OpenClaim := { program := "ytdniefnjgkhkeaadoor", sum := "d3af53c72f53d3cdc03879642bb59c032604609950aa54216954bade30f97ee8", func := "swage/swagelaw17.DeadMay", spec := "deadMay", inPlace := ["internal/reflectlite.ValueOf", "(internal/reflectlite.Value).Type", "(internal/reflectlite.Value).IsNil", "internal/reflectlite.TypeOf", "(internal/reflectlite.Value).Elem", "(internal/reflectlite.Value).Set"], unfollowed := true, recurses := true, named := ["errors.errorType"], apart := false, laid := [("errors.errorType", laid_errors_errorType)] }
def DeadMaySaid : Prop := deadMayRow.holds Tryd.pinned (OpenSpec.ofChange deadMaySpec)

/-- ITS FALSE NEIGHBOUR: 'it returns false'. Refute it at one input. -/
def deadMayWrong : ChangeSpec := { name := "deadMay", fn := fun _ => fun
  | [d1, d2] => { results := [.lit (.bool false)], args := [d1, d2] }
  | _ => none }
def DeadMayWrongFalsely : Prop := deadMayRow.holds Tryd.pinned (OpenSpec.ofChange deadMayWrong)

/-- 'swagelaw17.DeadChains': WHATEVER THE INPUT: true; the input reads as it did. -/
def deadChainsSpec : ChangeSpec := { name := "deadChains", fn := fun _ => fun
  | [d1, d2] => { results := [.lit (.bool true)], args := [d1, d2] }
  | _ => none }
def deadChainsRow : OpenClaim := { program := "ytdniefnjgkhkeaadoor", sum := "d3af53c72f53d3cdc03879642bb59c032604609950aa54216954bade30f97ee8", func := "swage/swagelaw17.DeadChains", spec := "deadChains", inPlace := ["internal/reflectlite.ValueOf", "(internal/reflectlite.Value).Type", "(internal/reflectlite.Value).IsNil", "internal/reflectlite.TypeOf", "(internal/reflectlite.Value).Elem", "(internal/reflectlite.Value).Set"], unfollowed := true, recurses := true, named := ["errors.errorType"], apart := false, laid := [("errors.errorType", laid_errors_errorType)] }
def DeadChainsSaid : Prop := deadChainsRow.holds Tryd.pinned (OpenSpec.ofChange deadChainsSpec)

/-- ITS FALSE NEIGHBOUR: 'it returns false'. Refute it at one input. -/
def deadChainsWrong : ChangeSpec := { name := "deadChains", fn := fun _ => fun
  | [d1, d2] => { results := [.lit (.bool false)], args := [d1, d2] }
  | _ => none }
def DeadChainsWrongFalsely : Prop := deadChainsRow.holds Tryd.pinned (OpenSpec.ofChange deadChainsWrong)

/-- 'swagelaw17.LiveLoop': WHATEVER THE INPUT: true; the input reads as it did. -/
def liveLoopSpec : ChangeSpec := { name := "liveLoop", fn := fun _ => fun
  | [d] => { results := [.lit (.bool true)], args := [d] }
  | _ => none }
def liveLoopRow : OpenClaim := { program := "ytdniefnjgkhkeaadoor", sum := "d3af53c72f53d3cdc03879642bb59c032604609950aa54216954bade30f97ee8", func := "swage/swagelaw17.LiveLoop", spec := "liveLoop", inPlace := ["internal/reflectlite.ValueOf", "(internal/reflectlite.Value).Type", "(internal/reflectlite.Value).IsNil", "internal/reflectlite.TypeOf", "(internal/reflectlite.Value).Elem", "(internal/reflectlite.Value).Set"], unfollowed := true, recurses := true, named := ["errors.errorType"], apart := false, laid := [("errors.errorType", laid_errors_errorType)] }
def LiveLoopSaid : Prop := liveLoopRow.holds Tryd.pinned (OpenSpec.ofChange liveLoopSpec)

/-- ITS FALSE NEIGHBOUR: 'it returns false'. Refute it at one input. -/
def liveLoopWrong : ChangeSpec := { name := "liveLoop", fn := fun _ => fun
  | [d] => { results := [.lit (.bool false)], args := [d] }
  | _ => none }
def LiveLoopWrongFalsely : Prop := liveLoopRow.holds Tryd.pinned (OpenSpec.ofChange liveLoopWrong)

/- THE SECOND FORM. 'bulk': how many values and letters a reading holds, each counted each time it is reached (what is shared counts as often as it is met; a slice's spare places count too). A statement '..UptoSaid' is the law's where the arguments, and the package variables that the reading takes, are together of bulk at most 1048576: NARROWER than '..Said'. Prove '..Said' where nothing that the law and all that it calls make is longer than what came in: it says more and counts as full. Else prove '..UptoSaid'. A law counts once. -/
mutual
def uptoBulk {H : Type} : DataW H → Nat
  | .lit (.string bytes) => bytes.length + 1
  | .lit _ => 1
  | .nil => 1
  | .ptr d => uptoBulk d + 1
  | .slice elems spare => uptoBulkAll elems + uptoBulkAll spare + 1
  | .agg parts => uptoBulkAll parts + 1
  | .iface _ d => uptoBulk d + 1
  | .map entries => uptoBulkEntries entries + 1
  | .held _ => 1
def uptoBulkAll {H : Type} : List (DataW H) → Nat
  | [] => 0
  | d :: r => uptoBulk d + uptoBulkAll r
def uptoBulkEntries {H : Type} : List (Lit × DataW H) → Nat
  | [] => 0
  | x :: r => uptoBulkEntry x + uptoBulkEntries r
def uptoBulkEntry {H : Type} : Lit × DataW H → Nat
  | (.string bytes, d) => bytes.length + uptoBulk d + 1
  | (_, d) => uptoBulk d + 1
 end
def uptoSmall : (H : Type) → List (DataW H) → Bool := fun _ ds => decide (uptoBulkAll ds ≤ 1048576)
def OpenSpec.upto (s : _root_.Go.ChangeSpec) : _root_.Go.OpenSpec := { _root_.Go.OpenSpec.ofChange s with cond := some uptoSmall }

/-- 'swagelaw17.DeadMay', WHERE WHAT IT READS IS OF BULK AT MOST 1048576: true; the input reads as it did. -/
def deadMayUptoRow : OpenClaim := { program := "ytdniefnjgkhkeaadoor", sum := "d3af53c72f53d3cdc03879642bb59c032604609950aa54216954bade30f97ee8", func := "swage/swagelaw17.DeadMay", spec := "deadMay", inPlace := ["internal/reflectlite.ValueOf", "(internal/reflectlite.Value).Type", "(internal/reflectlite.Value).IsNil", "internal/reflectlite.TypeOf", "(internal/reflectlite.Value).Elem", "(internal/reflectlite.Value).Set"], unfollowed := true, recurses := true, named := ["errors.errorType"], apart := false, laid := [("errors.errorType", laid_errors_errorType)], narrowed := true }
def DeadMayUptoSaid : Prop := deadMayUptoRow.holds Tryd.pinned (OpenSpec.upto deadMaySpec)

/-- 'swagelaw17.DeadChains', WHERE WHAT IT READS IS OF BULK AT MOST 1048576: true; the input reads as it did. -/
def deadChainsUptoRow : OpenClaim := { program := "ytdniefnjgkhkeaadoor", sum := "d3af53c72f53d3cdc03879642bb59c032604609950aa54216954bade30f97ee8", func := "swage/swagelaw17.DeadChains", spec := "deadChains", inPlace := ["internal/reflectlite.ValueOf", "(internal/reflectlite.Value).Type", "(internal/reflectlite.Value).IsNil", "internal/reflectlite.TypeOf", "(internal/reflectlite.Value).Elem", "(internal/reflectlite.Value).Set"], unfollowed := true, recurses := true, named := ["errors.errorType"], apart := false, laid := [("errors.errorType", laid_errors_errorType)], narrowed := true }
def DeadChainsUptoSaid : Prop := deadChainsUptoRow.holds Tryd.pinned (OpenSpec.upto deadChainsSpec)

/-- 'swagelaw17.LiveLoop', WHERE WHAT IT READS IS OF BULK AT MOST 1048576: true; the input reads as it did. -/
def liveLoopUptoRow : OpenClaim := { program := "ytdniefnjgkhkeaadoor", sum := "d3af53c72f53d3cdc03879642bb59c032604609950aa54216954bade30f97ee8", func := "swage/swagelaw17.LiveLoop", spec := "liveLoop", inPlace := ["internal/reflectlite.ValueOf", "(internal/reflectlite.Value).Type", "(internal/reflectlite.Value).IsNil", "internal/reflectlite.TypeOf", "(internal/reflectlite.Value).Elem", "(internal/reflectlite.Value).Set"], unfollowed := true, recurses := true, named := ["errors.errorType"], apart := false, laid := [("errors.errorType", laid_errors_errorType)], narrowed := true }
def LiveLoopUptoSaid : Prop := liveLoopUptoRow.holds Tryd.pinned (OpenSpec.upto liveLoopSpec)

end Rows
end Go.Proofs.YtdniefnjgkhkeaaDoor
