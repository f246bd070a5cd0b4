/-
  No cell of these rows narrows 'for every input' (looked for: loops, veiled, ifaces, maps, wideKeys, modest, calm, conditions, laid).
  DERIVED. THE GIVEN ROWS OF THIS SEAT. 4 by the template 'for every input the law returns true; each argument reads behind the call as it read before'; 0 by the template 'total and deterministic' (their statements: YtkkifebmicbbaaaGreatTotals.lean).
  GIVEN WITH THE SEED: the statements are not yours to turn. If you find one false, say at which input.
  Laid BY PROGRAM, IN A SANDBOX (cutbox-rows.mjs): the forced cells as the released guide's own fill.sh prints them over the translation 53b691ab0fa121fb… (all of the seat's roots in one cut). By AI agents, Wed Nov 11 2026. No macro, syntax, notation, axiom, sorry.
-/
import Derived.Test.YtkkifebmicbbaaaGreatChecked
import GoSem.Claim
import GoSem.ClaimJoined
import GoSem.ClaimMapViews
import Derived.JoinedTies
import Derived.KernelRfl
namespace Go.Proofs.YtkkifebmicbbaaaGreat
/- THE CELL 'sum', in the pinned program and in every row, IS THE sha256 OF THE DUMP (.gsa) THAT YtkkifebmicbbaaaGreatProg.lean LOADS. Nothing in Lean hashes anything: it is a label: what it is worth is what the hold of that sum in a sandbox is worth. -/
noncomputable def Tryz.pinned : Pinned := { name := "ytkkifebmicbbaaagreat", sum := "53b691ab0fa121fb8bd4d8f350c763f56ca8a45cbc4e307cd5f3783404f43e88", checked := Tryz.checked }
namespace Rows
def none {H : Type} : Left H := { results := [], args := [] }

/-- 'laws.FnExactAdmitSpec': WHATEVER THE INPUT: true; the input reads as it did. -/
def fnExactAdmitSpecSpec : ChangeSpec := { name := "fnExactAdmitSpec", fn := fun _ => fun
  | [d1, d2] => { results := [.lit (.bool true)], args := [d1, d2] }
  | _ => none }
def fnExactAdmitSpecRow : OpenClaim := { program := "ytkkifebmicbbaaagreat", sum := "53b691ab0fa121fb8bd4d8f350c763f56ca8a45cbc4e307cd5f3783404f43e88", func := "loop.example/g00662/laws.FnExactAdmitSpec", spec := "fnExactAdmitSpec", unfollowed := true, recurses := true, apart := false }
def FnExactAdmitSpecSaid : Prop := fnExactAdmitSpecRow.holds Tryz.pinned (OpenSpec.ofChange fnExactAdmitSpecSpec)

/-- ITS FALSE NEIGHBOUR: 'it returns false'. Refute it at one input. -/
def fnExactAdmitSpecWrong : ChangeSpec := { name := "fnExactAdmitSpec", fn := fun _ => fun
  | [d1, d2] => { results := [.lit (.bool false)], args := [d1, d2] }
  | _ => none }
def FnExactAdmitSpecWrongFalsely : Prop := fnExactAdmitSpecRow.holds Tryz.pinned (OpenSpec.ofChange fnExactAdmitSpecWrong)

/-- 'laws.FnAdmitted': WHATEVER THE INPUT: true; the input reads as it did. -/
def fnAdmittedSpec : ChangeSpec := { name := "fnAdmitted", fn := fun _ => fun
  | [d1, d2] => { results := [.lit (.bool true)], args := [d1, d2] }
  | _ => none }
def fnAdmittedRow : OpenClaim := { program := "ytkkifebmicbbaaagreat", sum := "53b691ab0fa121fb8bd4d8f350c763f56ca8a45cbc4e307cd5f3783404f43e88", func := "loop.example/g00662/laws.FnAdmitted", spec := "fnAdmitted", unfollowed := true, recurses := true, apart := false }
def FnAdmittedSaid : Prop := fnAdmittedRow.holds Tryz.pinned (OpenSpec.ofChange fnAdmittedSpec)

/-- ITS FALSE NEIGHBOUR: 'it returns false'. Refute it at one input. -/
def fnAdmittedWrong : ChangeSpec := { name := "fnAdmitted", fn := fun _ => fun
  | [d1, d2] => { results := [.lit (.bool false)], args := [d1, d2] }
  | _ => none }
def FnAdmittedWrongFalsely : Prop := fnAdmittedRow.holds Tryz.pinned (OpenSpec.ofChange fnAdmittedWrong)

/-- 'laws.FnCase': WHATEVER THE INPUT: true; the input reads as it did. -/
def fnCaseSpec : ChangeSpec := { name := "fnCase", fn := fun _ => fun
  | [d1, d2] => { results := [.lit (.bool true)], args := [d1, d2] }
  | _ => none }
def fnCaseRow : OpenClaim := { program := "ytkkifebmicbbaaagreat", sum := "53b691ab0fa121fb8bd4d8f350c763f56ca8a45cbc4e307cd5f3783404f43e88", func := "loop.example/g00662/laws.FnCase", spec := "fnCase", unfollowed := true, recurses := true, apart := false }
def FnCaseSaid : Prop := fnCaseRow.holds Tryz.pinned (OpenSpec.ofChange fnCaseSpec)

/-- ITS FALSE NEIGHBOUR: 'it returns false'. Refute it at one input. -/
def fnCaseWrong : ChangeSpec := { name := "fnCase", fn := fun _ => fun
  | [d1, d2] => { results := [.lit (.bool false)], args := [d1, d2] }
  | _ => none }
def FnCaseWrongFalsely : Prop := fnCaseRow.holds Tryz.pinned (OpenSpec.ofChange fnCaseWrong)

/-- 'laws.FnSound': WHATEVER THE INPUT: true; the input reads as it did. -/
def fnSoundSpec : ChangeSpec := { name := "fnSound", fn := fun _ => fun
  | [d1, d2] => { results := [.lit (.bool true)], args := [d1, d2] }
  | _ => none }
def fnSoundRow : OpenClaim := { program := "ytkkifebmicbbaaagreat", sum := "53b691ab0fa121fb8bd4d8f350c763f56ca8a45cbc4e307cd5f3783404f43e88", func := "loop.example/g00662/laws.FnSound", spec := "fnSound", unfollowed := true, recurses := true, apart := false }
def FnSoundSaid : Prop := fnSoundRow.holds Tryz.pinned (OpenSpec.ofChange fnSoundSpec)

/-- ITS FALSE NEIGHBOUR: 'it returns false'. Refute it at one input. -/
def fnSoundWrong : ChangeSpec := { name := "fnSound", fn := fun _ => fun
  | [d1, d2] => { results := [.lit (.bool false)], args := [d1, d2] }
  | _ => none }
def FnSoundWrongFalsely : Prop := fnSoundRow.holds Tryz.pinned (OpenSpec.ofChange fnSoundWrong)

/- THE SECOND FORM. 'bulk': how many values and letters a reading holds, each counted each time it is reached (what is shared counts as often as it is met; a slice's spare places count too). A statement '..UptoSaid' is the law's where the arguments, and the package variables that the reading takes, are together of bulk at most 1048576: NARROWER than '..Said'. Prove '..Said' where nothing that the law and all that it calls make is longer than what came in: it says more and counts as full. Else prove '..UptoSaid'. A law counts once. -/
mutual
def uptoBulk {H : Type} : DataW H → Nat
  | .lit (.string bytes) => bytes.length + 1
  | .lit _ => 1
  | .nil => 1
  | .ptr d => uptoBulk d + 1
  | .slice elems spare => uptoBulkAll elems + uptoBulkAll spare + 1
  | .agg parts => uptoBulkAll parts + 1
  | .iface _ d => uptoBulk d + 1
  | .map entries => uptoBulkEntries entries + 1
  | .held _ => 1
def uptoBulkAll {H : Type} : List (DataW H) → Nat
  | [] => 0
  | d :: r => uptoBulk d + uptoBulkAll r
def uptoBulkEntries {H : Type} : List (Lit × DataW H) → Nat
  | [] => 0
  | x :: r => uptoBulkEntry x + uptoBulkEntries r
def uptoBulkEntry {H : Type} : Lit × DataW H → Nat
  | (.string bytes, d) => bytes.length + uptoBulk d + 1
  | (_, d) => uptoBulk d + 1
 end
def uptoSmall : (H : Type) → List (DataW H) → Bool := fun _ ds => decide (uptoBulkAll ds ≤ 1048576)
def OpenSpec.upto (s : _root_.Go.ChangeSpec) : _root_.Go.OpenSpec := { _root_.Go.OpenSpec.ofChange s with cond := some uptoSmall }

/-- 'laws.FnExactAdmitSpec', WHERE WHAT IT READS IS OF BULK AT MOST 1048576: true; the input reads as it did. -/
def fnExactAdmitSpecUptoRow : OpenClaim := { program := "ytkkifebmicbbaaagreat", sum := "53b691ab0fa121fb8bd4d8f350c763f56ca8a45cbc4e307cd5f3783404f43e88", func := "loop.example/g00662/laws.FnExactAdmitSpec", spec := "fnExactAdmitSpec", unfollowed := true, recurses := true, apart := false, narrowed := true }
def FnExactAdmitSpecUptoSaid : Prop := fnExactAdmitSpecUptoRow.holds Tryz.pinned (OpenSpec.upto fnExactAdmitSpecSpec)

/-- 'laws.FnAdmitted', WHERE WHAT IT READS IS OF BULK AT MOST 1048576: true; the input reads as it did. -/
def fnAdmittedUptoRow : OpenClaim := { program := "ytkkifebmicbbaaagreat", sum := "53b691ab0fa121fb8bd4d8f350c763f56ca8a45cbc4e307cd5f3783404f43e88", func := "loop.example/g00662/laws.FnAdmitted", spec := "fnAdmitted", unfollowed := true, recurses := true, apart := false, narrowed := true }
def FnAdmittedUptoSaid : Prop := fnAdmittedUptoRow.holds Tryz.pinned (OpenSpec.upto fnAdmittedSpec)

/-- 'laws.FnCase', WHERE WHAT IT READS IS OF BULK AT MOST 1048576: true; the input reads as it did. -/
def fnCaseUptoRow : OpenClaim := { program := "ytkkifebmicbbaaagreat", sum := "53b691ab0fa121fb8bd4d8f350c763f56ca8a45cbc4e307cd5f3783404f43e88", func := "loop.example/g00662/laws.FnCase", spec := "fnCase", unfollowed := true, recurses := true, apart := false, narrowed := true }
def FnCaseUptoSaid : Prop := fnCaseUptoRow.holds Tryz.pinned (OpenSpec.upto fnCaseSpec)

/-- 'laws.FnSound', WHERE WHAT IT READS IS OF BULK AT MOST 1048576: true; the input reads as it did. -/
def fnSoundUptoRow : OpenClaim := { program := "ytkkifebmicbbaaagreat", sum := "53b691ab0fa121fb8bd4d8f350c763f56ca8a45cbc4e307cd5f3783404f43e88", func := "loop.example/g00662/laws.FnSound", spec := "fnSound", unfollowed := true, recurses := true, apart := false, narrowed := true }
def FnSoundUptoSaid : Prop := fnSoundUptoRow.holds Tryz.pinned (OpenSpec.upto fnSoundSpec)

end Rows
end Go.Proofs.YtkkifebmicbbaaaGreat
