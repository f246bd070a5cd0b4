/-
  No cell of these rows narrows 'for every input' (looked for: loops, veiled, ifaces, maps, wideKeys, modest, calm, conditions, laid).
  DERIVED. THE GIVEN ROWS OF THIS SEAT. 12 by the template 'for every input the law returns true; each argument reads behind the call as it read before'; 0 by the template 'total and deterministic' (their statements: YtldlbpdbbbajfaaTotals.lean).
  GIVEN WITH THE SEED: the statements are not yours to turn. If you find one false, say at which input.
  Laid BY PROGRAM, IN A SANDBOX (cutbox-rows.mjs): the forced cells as the released guide's own fill.sh prints them over the translation 78274923a8c2a566… (all of the seat's roots in one cut). By AI agents, Wed Nov 11 2026. No macro, syntax, notation, axiom, sorry.
-/
import Derived.Test.YtldlbpdbbbajfaaChecked
import GoSem.Claim
import GoSem.ClaimJoined
import GoSem.ClaimMapViews
import Derived.JoinedTies
import Derived.KernelRfl
namespace Go.Proofs.Ytldlbpdbbbajfaa
/- THE CELL 'sum', in the pinned program and in every row, IS THE sha256 OF THE DUMP (.gsa) THAT YtldlbpdbbbajfaaProg.lean LOADS. Nothing in Lean hashes anything: it is a label: what it is worth is what the hold of that sum in a sandbox is worth. -/
noncomputable def Try.pinned : Pinned := { name := "ytldlbpdbbbajfaa", sum := "78274923a8c2a566abeb1103c52746658a1cf74c53df5ac09ae3c1a7f39aebf4", checked := Try.checked }
namespace Rows
def none {H : Type} : Left H := { results := [], args := [] }

/-- 'laws.FnMarks': WHATEVER THE INPUT: true; the input reads as it did. -/
def fnMarksSpec : ChangeSpec := { name := "fnMarks", fn := fun _ => fun
  | [d1, d2] => { results := [.lit (.bool true)], args := [d1, d2] }
  | _ => none }
def fnMarksRow : OpenClaim := { program := "ytldlbpdbbbajfaa", sum := "78274923a8c2a566abeb1103c52746658a1cf74c53df5ac09ae3c1a7f39aebf4", func := "loop.example/g00662/laws.FnMarks", spec := "fnMarks", unfollowed := true, recurses := true, apart := false }
def FnMarksSaid : Prop := fnMarksRow.holds Try.pinned (OpenSpec.ofChange fnMarksSpec)

/-- ITS FALSE NEIGHBOUR: 'it returns false'. Refute it at one input. -/
def fnMarksWrong : ChangeSpec := { name := "fnMarks", fn := fun _ => fun
  | [d1, d2] => { results := [.lit (.bool false)], args := [d1, d2] }
  | _ => none }
def FnMarksWrongFalsely : Prop := fnMarksRow.holds Try.pinned (OpenSpec.ofChange fnMarksWrong)

/-- 'laws.FnMonotone': WHATEVER THE INPUT: true; the input reads as it did. -/
def fnMonotoneSpec : ChangeSpec := { name := "fnMonotone", fn := fun _ => fun
  | [d1, d2] => { results := [.lit (.bool true)], args := [d1, d2] }
  | _ => none }
def fnMonotoneRow : OpenClaim := { program := "ytldlbpdbbbajfaa", sum := "78274923a8c2a566abeb1103c52746658a1cf74c53df5ac09ae3c1a7f39aebf4", func := "loop.example/g00662/laws.FnMonotone", spec := "fnMonotone", unfollowed := true, recurses := true, apart := false }
def FnMonotoneSaid : Prop := fnMonotoneRow.holds Try.pinned (OpenSpec.ofChange fnMonotoneSpec)

/-- ITS FALSE NEIGHBOUR: 'it returns false'. Refute it at one input. -/
def fnMonotoneWrong : ChangeSpec := { name := "fnMonotone", fn := fun _ => fun
  | [d1, d2] => { results := [.lit (.bool false)], args := [d1, d2] }
  | _ => none }
def FnMonotoneWrongFalsely : Prop := fnMonotoneRow.holds Try.pinned (OpenSpec.ofChange fnMonotoneWrong)

/-- 'laws.FnFired': WHATEVER THE INPUT: true; the input reads as it did. -/
def fnFiredSpec : ChangeSpec := { name := "fnFired", fn := fun _ => fun
  | [d1, d2] => { results := [.lit (.bool true)], args := [d1, d2] }
  | _ => none }
def fnFiredRow : OpenClaim := { program := "ytldlbpdbbbajfaa", sum := "78274923a8c2a566abeb1103c52746658a1cf74c53df5ac09ae3c1a7f39aebf4", func := "loop.example/g00662/laws.FnFired", spec := "fnFired", unfollowed := true, recurses := true, apart := false }
def FnFiredSaid : Prop := fnFiredRow.holds Try.pinned (OpenSpec.ofChange fnFiredSpec)

/-- ITS FALSE NEIGHBOUR: 'it returns false'. Refute it at one input. -/
def fnFiredWrong : ChangeSpec := { name := "fnFired", fn := fun _ => fun
  | [d1, d2] => { results := [.lit (.bool false)], args := [d1, d2] }
  | _ => none }
def FnFiredWrongFalsely : Prop := fnFiredRow.holds Try.pinned (OpenSpec.ofChange fnFiredWrong)

/-- 'laws.FnTurned': WHATEVER THE INPUT: true; the input reads as it did. -/
def fnTurnedSpec : ChangeSpec := { name := "fnTurned", fn := fun _ => fun
  | [d1, d2] => { results := [.lit (.bool true)], args := [d1, d2] }
  | _ => none }
def fnTurnedRow : OpenClaim := { program := "ytldlbpdbbbajfaa", sum := "78274923a8c2a566abeb1103c52746658a1cf74c53df5ac09ae3c1a7f39aebf4", func := "loop.example/g00662/laws.FnTurned", spec := "fnTurned", unfollowed := true, recurses := true, apart := false }
def FnTurnedSaid : Prop := fnTurnedRow.holds Try.pinned (OpenSpec.ofChange fnTurnedSpec)

/-- ITS FALSE NEIGHBOUR: 'it returns false'. Refute it at one input. -/
def fnTurnedWrong : ChangeSpec := { name := "fnTurned", fn := fun _ => fun
  | [d1, d2] => { results := [.lit (.bool false)], args := [d1, d2] }
  | _ => none }
def FnTurnedWrongFalsely : Prop := fnTurnedRow.holds Try.pinned (OpenSpec.ofChange fnTurnedWrong)

/-- 'laws.FnSiphons': WHATEVER THE INPUT: true; the input reads as it did. -/
def fnSiphonsSpec : ChangeSpec := { name := "fnSiphons", fn := fun _ => fun
  | [d1, d2] => { results := [.lit (.bool true)], args := [d1, d2] }
  | _ => none }
def fnSiphonsRow : OpenClaim := { program := "ytldlbpdbbbajfaa", sum := "78274923a8c2a566abeb1103c52746658a1cf74c53df5ac09ae3c1a7f39aebf4", func := "loop.example/g00662/laws.FnSiphons", spec := "fnSiphons", unfollowed := true, recurses := true, apart := false }
def FnSiphonsSaid : Prop := fnSiphonsRow.holds Try.pinned (OpenSpec.ofChange fnSiphonsSpec)

/-- ITS FALSE NEIGHBOUR: 'it returns false'. Refute it at one input. -/
def fnSiphonsWrong : ChangeSpec := { name := "fnSiphons", fn := fun _ => fun
  | [d1, d2] => { results := [.lit (.bool false)], args := [d1, d2] }
  | _ => none }
def FnSiphonsWrongFalsely : Prop := fnSiphonsRow.holds Try.pinned (OpenSpec.ofChange fnSiphonsWrong)

/-- 'laws.FnStepBack': WHATEVER THE INPUT: true; the input reads as it did. -/
def fnStepBackSpec : ChangeSpec := { name := "fnStepBack", fn := fun _ => fun
  | [d1, d2] => { results := [.lit (.bool true)], args := [d1, d2] }
  | _ => none }
def fnStepBackRow : OpenClaim := { program := "ytldlbpdbbbajfaa", sum := "78274923a8c2a566abeb1103c52746658a1cf74c53df5ac09ae3c1a7f39aebf4", func := "loop.example/g00662/laws.FnStepBack", spec := "fnStepBack", unfollowed := true, recurses := true, apart := false }
def FnStepBackSaid : Prop := fnStepBackRow.holds Try.pinned (OpenSpec.ofChange fnStepBackSpec)

/-- ITS FALSE NEIGHBOUR: 'it returns false'. Refute it at one input. -/
def fnStepBackWrong : ChangeSpec := { name := "fnStepBack", fn := fun _ => fun
  | [d1, d2] => { results := [.lit (.bool false)], args := [d1, d2] }
  | _ => none }
def FnStepBackWrongFalsely : Prop := fnStepBackRow.holds Try.pinned (OpenSpec.ofChange fnStepBackWrong)

/-- 'laws.FnWays': WHATEVER THE INPUT: true; the input reads as it did. -/
def fnWaysSpec : ChangeSpec := { name := "fnWays", fn := fun _ => fun
  | [d1, d2] => { results := [.lit (.bool true)], args := [d1, d2] }
  | _ => none }
def fnWaysRow : OpenClaim := { program := "ytldlbpdbbbajfaa", sum := "78274923a8c2a566abeb1103c52746658a1cf74c53df5ac09ae3c1a7f39aebf4", func := "loop.example/g00662/laws.FnWays", spec := "fnWays", unfollowed := true, recurses := true, apart := false }
def FnWaysSaid : Prop := fnWaysRow.holds Try.pinned (OpenSpec.ofChange fnWaysSpec)

/-- ITS FALSE NEIGHBOUR: 'it returns false'. Refute it at one input. -/
def fnWaysWrong : ChangeSpec := { name := "fnWays", fn := fun _ => fun
  | [d1, d2] => { results := [.lit (.bool false)], args := [d1, d2] }
  | _ => none }
def FnWaysWrongFalsely : Prop := fnWaysRow.holds Try.pinned (OpenSpec.ofChange fnWaysWrong)

/-- 'laws.FnKeptAll': WHATEVER THE INPUT: true; the input reads as it did. -/
def fnKeptAllSpec : ChangeSpec := { name := "fnKeptAll", fn := fun _ => fun
  | [d1, d2] => { results := [.lit (.bool true)], args := [d1, d2] }
  | _ => none }
def fnKeptAllRow : OpenClaim := { program := "ytldlbpdbbbajfaa", sum := "78274923a8c2a566abeb1103c52746658a1cf74c53df5ac09ae3c1a7f39aebf4", func := "loop.example/g00662/laws.FnKeptAll", spec := "fnKeptAll", unfollowed := true, recurses := true, apart := false }
def FnKeptAllSaid : Prop := fnKeptAllRow.holds Try.pinned (OpenSpec.ofChange fnKeptAllSpec)

/-- ITS FALSE NEIGHBOUR: 'it returns false'. Refute it at one input. -/
def fnKeptAllWrong : ChangeSpec := { name := "fnKeptAll", fn := fun _ => fun
  | [d1, d2] => { results := [.lit (.bool false)], args := [d1, d2] }
  | _ => none }
def FnKeptAllWrongFalsely : Prop := fnKeptAllRow.holds Try.pinned (OpenSpec.ofChange fnKeptAllWrong)

/-- 'laws.FnKeptSum': WHATEVER THE INPUT: true; the input reads as it did. -/
def fnKeptSumSpec : ChangeSpec := { name := "fnKeptSum", fn := fun _ => fun
  | [d1, d2] => { results := [.lit (.bool true)], args := [d1, d2] }
  | _ => none }
def fnKeptSumRow : OpenClaim := { program := "ytldlbpdbbbajfaa", sum := "78274923a8c2a566abeb1103c52746658a1cf74c53df5ac09ae3c1a7f39aebf4", func := "loop.example/g00662/laws.FnKeptSum", spec := "fnKeptSum", unfollowed := true, recurses := true, apart := false }
def FnKeptSumSaid : Prop := fnKeptSumRow.holds Try.pinned (OpenSpec.ofChange fnKeptSumSpec)

/-- ITS FALSE NEIGHBOUR: 'it returns false'. Refute it at one input. -/
def fnKeptSumWrong : ChangeSpec := { name := "fnKeptSum", fn := fun _ => fun
  | [d1, d2] => { results := [.lit (.bool false)], args := [d1, d2] }
  | _ => none }
def FnKeptSumWrongFalsely : Prop := fnKeptSumRow.holds Try.pinned (OpenSpec.ofChange fnKeptSumWrong)

/-- 'laws.FnGuarded': WHATEVER THE INPUT: true; the input reads as it did. -/
def fnGuardedSpec : ChangeSpec := { name := "fnGuarded", fn := fun _ => fun
  | [d1, d2] => { results := [.lit (.bool true)], args := [d1, d2] }
  | _ => none }
def fnGuardedRow : OpenClaim := { program := "ytldlbpdbbbajfaa", sum := "78274923a8c2a566abeb1103c52746658a1cf74c53df5ac09ae3c1a7f39aebf4", func := "loop.example/g00662/laws.FnGuarded", spec := "fnGuarded", unfollowed := true, recurses := true, apart := false }
def FnGuardedSaid : Prop := fnGuardedRow.holds Try.pinned (OpenSpec.ofChange fnGuardedSpec)

/-- ITS FALSE NEIGHBOUR: 'it returns false'. Refute it at one input. -/
def fnGuardedWrong : ChangeSpec := { name := "fnGuarded", fn := fun _ => fun
  | [d1, d2] => { results := [.lit (.bool false)], args := [d1, d2] }
  | _ => none }
def FnGuardedWrongFalsely : Prop := fnGuardedRow.holds Try.pinned (OpenSpec.ofChange fnGuardedWrong)

/-- 'laws.FnSpace': WHATEVER THE INPUT: true; the input reads as it did. -/
def fnSpaceSpec : ChangeSpec := { name := "fnSpace", fn := fun _ => fun
  | [d1, d2] => { results := [.lit (.bool true)], args := [d1, d2] }
  | _ => none }
def fnSpaceRow : OpenClaim := { program := "ytldlbpdbbbajfaa", sum := "78274923a8c2a566abeb1103c52746658a1cf74c53df5ac09ae3c1a7f39aebf4", func := "loop.example/g00662/laws.FnSpace", spec := "fnSpace", unfollowed := true, recurses := true, apart := false }
def FnSpaceSaid : Prop := fnSpaceRow.holds Try.pinned (OpenSpec.ofChange fnSpaceSpec)

/-- ITS FALSE NEIGHBOUR: 'it returns false'. Refute it at one input. -/
def fnSpaceWrong : ChangeSpec := { name := "fnSpace", fn := fun _ => fun
  | [d1, d2] => { results := [.lit (.bool false)], args := [d1, d2] }
  | _ => none }
def FnSpaceWrongFalsely : Prop := fnSpaceRow.holds Try.pinned (OpenSpec.ofChange fnSpaceWrong)

/-- 'laws.FnLeastMarks': WHATEVER THE INPUT: true; the input reads as it did. -/
def fnLeastMarksSpec : ChangeSpec := { name := "fnLeastMarks", fn := fun _ => fun
  | [d1, d2] => { results := [.lit (.bool true)], args := [d1, d2] }
  | _ => none }
def fnLeastMarksRow : OpenClaim := { program := "ytldlbpdbbbajfaa", sum := "78274923a8c2a566abeb1103c52746658a1cf74c53df5ac09ae3c1a7f39aebf4", func := "loop.example/g00662/laws.FnLeastMarks", spec := "fnLeastMarks", unfollowed := true, recurses := true, apart := false }
def FnLeastMarksSaid : Prop := fnLeastMarksRow.holds Try.pinned (OpenSpec.ofChange fnLeastMarksSpec)

/-- ITS FALSE NEIGHBOUR: 'it returns false'. Refute it at one input. -/
def fnLeastMarksWrong : ChangeSpec := { name := "fnLeastMarks", fn := fun _ => fun
  | [d1, d2] => { results := [.lit (.bool false)], args := [d1, d2] }
  | _ => none }
def FnLeastMarksWrongFalsely : Prop := fnLeastMarksRow.holds Try.pinned (OpenSpec.ofChange fnLeastMarksWrong)

/- THE SECOND FORM. 'bulk': how many values and letters a reading holds, each counted each time it is reached (what is shared counts as often as it is met; a slice's spare places count too). A statement '..UptoSaid' is the law's where the arguments, and the package variables that the reading takes, are together of bulk at most 1048576: NARROWER than '..Said'. Prove '..Said' where nothing that the law and all that it calls make is longer than what came in: it says more and counts as full. Else prove '..UptoSaid'. A law counts once. -/
mutual
def uptoBulk {H : Type} : DataW H → Nat
  | .lit (.string bytes) => bytes.length + 1
  | .lit _ => 1
  | .nil => 1
  | .ptr d => uptoBulk d + 1
  | .slice elems spare => uptoBulkAll elems + uptoBulkAll spare + 1
  | .agg parts => uptoBulkAll parts + 1
  | .iface _ d => uptoBulk d + 1
  | .map entries => uptoBulkEntries entries + 1
  | .held _ => 1
def uptoBulkAll {H : Type} : List (DataW H) → Nat
  | [] => 0
  | d :: r => uptoBulk d + uptoBulkAll r
def uptoBulkEntries {H : Type} : List (Lit × DataW H) → Nat
  | [] => 0
  | x :: r => uptoBulkEntry x + uptoBulkEntries r
def uptoBulkEntry {H : Type} : Lit × DataW H → Nat
  | (.string bytes, d) => bytes.length + uptoBulk d + 1
  | (_, d) => uptoBulk d + 1
 end
def uptoSmall : (H : Type) → List (DataW H) → Bool := fun _ ds => decide (uptoBulkAll ds ≤ 1048576)
def OpenSpec.upto (s : _root_.Go.ChangeSpec) : _root_.Go.OpenSpec := { _root_.Go.OpenSpec.ofChange s with cond := some uptoSmall }

/-- 'laws.FnMarks', WHERE WHAT IT READS IS OF BULK AT MOST 1048576: true; the input reads as it did. -/
def fnMarksUptoRow : OpenClaim := { program := "ytldlbpdbbbajfaa", sum := "78274923a8c2a566abeb1103c52746658a1cf74c53df5ac09ae3c1a7f39aebf4", func := "loop.example/g00662/laws.FnMarks", spec := "fnMarks", unfollowed := true, recurses := true, apart := false, narrowed := true }
def FnMarksUptoSaid : Prop := fnMarksUptoRow.holds Try.pinned (OpenSpec.upto fnMarksSpec)

/-- 'laws.FnMonotone', WHERE WHAT IT READS IS OF BULK AT MOST 1048576: true; the input reads as it did. -/
def fnMonotoneUptoRow : OpenClaim := { program := "ytldlbpdbbbajfaa", sum := "78274923a8c2a566abeb1103c52746658a1cf74c53df5ac09ae3c1a7f39aebf4", func := "loop.example/g00662/laws.FnMonotone", spec := "fnMonotone", unfollowed := true, recurses := true, apart := false, narrowed := true }
def FnMonotoneUptoSaid : Prop := fnMonotoneUptoRow.holds Try.pinned (OpenSpec.upto fnMonotoneSpec)

/-- 'laws.FnFired', WHERE WHAT IT READS IS OF BULK AT MOST 1048576: true; the input reads as it did. -/
def fnFiredUptoRow : OpenClaim := { program := "ytldlbpdbbbajfaa", sum := "78274923a8c2a566abeb1103c52746658a1cf74c53df5ac09ae3c1a7f39aebf4", func := "loop.example/g00662/laws.FnFired", spec := "fnFired", unfollowed := true, recurses := true, apart := false, narrowed := true }
def FnFiredUptoSaid : Prop := fnFiredUptoRow.holds Try.pinned (OpenSpec.upto fnFiredSpec)

/-- 'laws.FnTurned', WHERE WHAT IT READS IS OF BULK AT MOST 1048576: true; the input reads as it did. -/
def fnTurnedUptoRow : OpenClaim := { program := "ytldlbpdbbbajfaa", sum := "78274923a8c2a566abeb1103c52746658a1cf74c53df5ac09ae3c1a7f39aebf4", func := "loop.example/g00662/laws.FnTurned", spec := "fnTurned", unfollowed := true, recurses := true, apart := false, narrowed := true }
def FnTurnedUptoSaid : Prop := fnTurnedUptoRow.holds Try.pinned (OpenSpec.upto fnTurnedSpec)

/-- 'laws.FnSiphons', WHERE WHAT IT READS IS OF BULK AT MOST 1048576: true; the input reads as it did. -/
def fnSiphonsUptoRow : OpenClaim := { program := "ytldlbpdbbbajfaa", sum := "78274923a8c2a566abeb1103c52746658a1cf74c53df5ac09ae3c1a7f39aebf4", func := "loop.example/g00662/laws.FnSiphons", spec := "fnSiphons", unfollowed := true, recurses := true, apart := false, narrowed := true }
def FnSiphonsUptoSaid : Prop := fnSiphonsUptoRow.holds Try.pinned (OpenSpec.upto fnSiphonsSpec)

/-- 'laws.FnStepBack', WHERE WHAT IT READS IS OF BULK AT MOST 1048576: true; the input reads as it did. -/
def fnStepBackUptoRow : OpenClaim := { program := "ytldlbpdbbbajfaa", sum := "78274923a8c2a566abeb1103c52746658a1cf74c53df5ac09ae3c1a7f39aebf4", func := "loop.example/g00662/laws.FnStepBack", spec := "fnStepBack", unfollowed := true, recurses := true, apart := false, narrowed := true }
def FnStepBackUptoSaid : Prop := fnStepBackUptoRow.holds Try.pinned (OpenSpec.upto fnStepBackSpec)

/-- 'laws.FnWays', WHERE WHAT IT READS IS OF BULK AT MOST 1048576: true; the input reads as it did. -/
def fnWaysUptoRow : OpenClaim := { program := "ytldlbpdbbbajfaa", sum := "78274923a8c2a566abeb1103c52746658a1cf74c53df5ac09ae3c1a7f39aebf4", func := "loop.example/g00662/laws.FnWays", spec := "fnWays", unfollowed := true, recurses := true, apart := false, narrowed := true }
def FnWaysUptoSaid : Prop := fnWaysUptoRow.holds Try.pinned (OpenSpec.upto fnWaysSpec)

/-- 'laws.FnKeptAll', WHERE WHAT IT READS IS OF BULK AT MOST 1048576: true; the input reads as it did. -/
def fnKeptAllUptoRow : OpenClaim := { program := "ytldlbpdbbbajfaa", sum := "78274923a8c2a566abeb1103c52746658a1cf74c53df5ac09ae3c1a7f39aebf4", func := "loop.example/g00662/laws.FnKeptAll", spec := "fnKeptAll", unfollowed := true, recurses := true, apart := false, narrowed := true }
def FnKeptAllUptoSaid : Prop := fnKeptAllUptoRow.holds Try.pinned (OpenSpec.upto fnKeptAllSpec)

/-- 'laws.FnKeptSum', WHERE WHAT IT READS IS OF BULK AT MOST 1048576: true; the input reads as it did. -/
def fnKeptSumUptoRow : OpenClaim := { program := "ytldlbpdbbbajfaa", sum := "78274923a8c2a566abeb1103c52746658a1cf74c53df5ac09ae3c1a7f39aebf4", func := "loop.example/g00662/laws.FnKeptSum", spec := "fnKeptSum", unfollowed := true, recurses := true, apart := false, narrowed := true }
def FnKeptSumUptoSaid : Prop := fnKeptSumUptoRow.holds Try.pinned (OpenSpec.upto fnKeptSumSpec)

/-- 'laws.FnGuarded', WHERE WHAT IT READS IS OF BULK AT MOST 1048576: true; the input reads as it did. -/
def fnGuardedUptoRow : OpenClaim := { program := "ytldlbpdbbbajfaa", sum := "78274923a8c2a566abeb1103c52746658a1cf74c53df5ac09ae3c1a7f39aebf4", func := "loop.example/g00662/laws.FnGuarded", spec := "fnGuarded", unfollowed := true, recurses := true, apart := false, narrowed := true }
def FnGuardedUptoSaid : Prop := fnGuardedUptoRow.holds Try.pinned (OpenSpec.upto fnGuardedSpec)

/-- 'laws.FnSpace', WHERE WHAT IT READS IS OF BULK AT MOST 1048576: true; the input reads as it did. -/
def fnSpaceUptoRow : OpenClaim := { program := "ytldlbpdbbbajfaa", sum := "78274923a8c2a566abeb1103c52746658a1cf74c53df5ac09ae3c1a7f39aebf4", func := "loop.example/g00662/laws.FnSpace", spec := "fnSpace", unfollowed := true, recurses := true, apart := false, narrowed := true }
def FnSpaceUptoSaid : Prop := fnSpaceUptoRow.holds Try.pinned (OpenSpec.upto fnSpaceSpec)

/-- 'laws.FnLeastMarks', WHERE WHAT IT READS IS OF BULK AT MOST 1048576: true; the input reads as it did. -/
def fnLeastMarksUptoRow : OpenClaim := { program := "ytldlbpdbbbajfaa", sum := "78274923a8c2a566abeb1103c52746658a1cf74c53df5ac09ae3c1a7f39aebf4", func := "loop.example/g00662/laws.FnLeastMarks", spec := "fnLeastMarks", unfollowed := true, recurses := true, apart := false, narrowed := true }
def FnLeastMarksUptoSaid : Prop := fnLeastMarksUptoRow.holds Try.pinned (OpenSpec.upto fnLeastMarksSpec)

end Rows
end Go.Proofs.Ytldlbpdbbbajfaa
