/-
  No cell of these rows narrows 'for every input' (looked for: loops, veiled, ifaces, maps, wideKeys, modest, calm, conditions, laid).
  DERIVED. THE GIVEN ROWS OF THIS SEAT. 8 by the template 'for every input the law returns true; each argument reads behind the call as it read before'; 0 by the template 'total and deterministic' (their statements: YtkkifebmicbbaaaTotals.lean).
  GIVEN WITH THE SEED: the statements are not yours to turn. If you find one false, say at which input.
  Laid BY PROGRAM, IN A SANDBOX (cutbox-rows.mjs): the forced cells as the released guide's own fill.sh prints them over the translation e14935046f6fb89f… (all of the seat's roots in one cut). By AI agents, Wed Nov 11 2026. No macro, syntax, notation, axiom, sorry.
-/
import Derived.Test.YtkkifebmicbbaaaChecked
import GoSem.Claim
import GoSem.ClaimJoined
import GoSem.ClaimMapViews
import Derived.JoinedTies
import Derived.KernelRfl
namespace Go.Proofs.Ytkkifebmicbbaaa
/- THE CELL 'sum', in the pinned program and in every row, IS THE sha256 OF THE DUMP (.gsa) THAT YtkkifebmicbbaaaProg.lean LOADS. Nothing in Lean hashes anything: it is a label: what it is worth is what the hold of that sum in a sandbox is worth. -/
noncomputable def Try.pinned : Pinned := { name := "ytkkifebmicbbaaa", sum := "e14935046f6fb89fd780e21a7d836c5d12a0423324154c10c3cab02ac0a10df8", checked := Try.checked }
namespace Rows
def none {H : Type} : Left H := { results := [], args := [] }

/-- 'laws.FnExactFuseTrans': WHATEVER THE INPUT: true; the input reads as it did. -/
def fnExactFuseTransSpec : ChangeSpec := { name := "fnExactFuseTrans", fn := fun _ => fun
  | [d] => { results := [.lit (.bool true)], args := [d] }
  | _ => none }
def fnExactFuseTransRow : OpenClaim := { program := "ytkkifebmicbbaaa", sum := "e14935046f6fb89fd780e21a7d836c5d12a0423324154c10c3cab02ac0a10df8", func := "loop.example/g00662/laws.FnExactFuseTrans", spec := "fnExactFuseTrans", unfollowed := true, recurses := true, apart := false }
def FnExactFuseTransSaid : Prop := fnExactFuseTransRow.holds Try.pinned (OpenSpec.ofChange fnExactFuseTransSpec)

/-- ITS FALSE NEIGHBOUR: 'it returns false'. Refute it at one input. -/
def fnExactFuseTransWrong : ChangeSpec := { name := "fnExactFuseTrans", fn := fun _ => fun
  | [d] => { results := [.lit (.bool false)], args := [d] }
  | _ => none }
def FnExactFuseTransWrongFalsely : Prop := fnExactFuseTransRow.holds Try.pinned (OpenSpec.ofChange fnExactFuseTransWrong)

/-- 'laws.FnExactFusePlaces': WHATEVER THE INPUT: true; the input reads as it did. -/
def fnExactFusePlacesSpec : ChangeSpec := { name := "fnExactFusePlaces", fn := fun _ => fun
  | [d] => { results := [.lit (.bool true)], args := [d] }
  | _ => none }
def fnExactFusePlacesRow : OpenClaim := { program := "ytkkifebmicbbaaa", sum := "e14935046f6fb89fd780e21a7d836c5d12a0423324154c10c3cab02ac0a10df8", func := "loop.example/g00662/laws.FnExactFusePlaces", spec := "fnExactFusePlaces", unfollowed := true, recurses := true, apart := false }
def FnExactFusePlacesSaid : Prop := fnExactFusePlacesRow.holds Try.pinned (OpenSpec.ofChange fnExactFusePlacesSpec)

/-- ITS FALSE NEIGHBOUR: 'it returns false'. Refute it at one input. -/
def fnExactFusePlacesWrong : ChangeSpec := { name := "fnExactFusePlaces", fn := fun _ => fun
  | [d] => { results := [.lit (.bool false)], args := [d] }
  | _ => none }
def FnExactFusePlacesWrongFalsely : Prop := fnExactFusePlacesRow.holds Try.pinned (OpenSpec.ofChange fnExactFusePlacesWrong)

/-- 'laws.FnExactJoinTrees': WHATEVER THE INPUT: true; the input reads as it did. -/
def fnExactJoinTreesSpec : ChangeSpec := { name := "fnExactJoinTrees", fn := fun _ => fun
  | [d1, d2, d3] => { results := [.lit (.bool true)], args := [d1, d2, d3] }
  | _ => none }
def fnExactJoinTreesRow : OpenClaim := { program := "ytkkifebmicbbaaa", sum := "e14935046f6fb89fd780e21a7d836c5d12a0423324154c10c3cab02ac0a10df8", func := "loop.example/g00662/laws.FnExactJoinTrees", spec := "fnExactJoinTrees", apart := false }
def FnExactJoinTreesSaid : Prop := fnExactJoinTreesRow.holds Try.pinned (OpenSpec.ofChange fnExactJoinTreesSpec)

/-- ITS FALSE NEIGHBOUR: 'it returns false'. Refute it at one input. -/
def fnExactJoinTreesWrong : ChangeSpec := { name := "fnExactJoinTrees", fn := fun _ => fun
  | [d1, d2, d3] => { results := [.lit (.bool false)], args := [d1, d2, d3] }
  | _ => none }
def FnExactJoinTreesWrongFalsely : Prop := fnExactJoinTreesRow.holds Try.pinned (OpenSpec.ofChange fnExactJoinTreesWrong)

/-- 'laws.FnExactTreeFlow': WHATEVER THE INPUT: true; the input reads as it did. -/
def fnExactTreeFlowSpec : ChangeSpec := { name := "fnExactTreeFlow", fn := fun _ => fun
  | [d] => { results := [.lit (.bool true)], args := [d] }
  | _ => none }
def fnExactTreeFlowRow : OpenClaim := { program := "ytkkifebmicbbaaa", sum := "e14935046f6fb89fd780e21a7d836c5d12a0423324154c10c3cab02ac0a10df8", func := "loop.example/g00662/laws.FnExactTreeFlow", spec := "fnExactTreeFlow", unfollowed := true, recurses := true, apart := false }
def FnExactTreeFlowSaid : Prop := fnExactTreeFlowRow.holds Try.pinned (OpenSpec.ofChange fnExactTreeFlowSpec)

/-- ITS FALSE NEIGHBOUR: 'it returns false'. Refute it at one input. -/
def fnExactTreeFlowWrong : ChangeSpec := { name := "fnExactTreeFlow", fn := fun _ => fun
  | [d] => { results := [.lit (.bool false)], args := [d] }
  | _ => none }
def FnExactTreeFlowWrongFalsely : Prop := fnExactTreeFlowRow.holds Try.pinned (OpenSpec.ofChange fnExactTreeFlowWrong)

/-- 'laws.FnExactReduceFlow': WHATEVER THE INPUT: true; the input reads as it did. -/
def fnExactReduceFlowSpec : ChangeSpec := { name := "fnExactReduceFlow", fn := fun _ => fun
  | [d] => { results := [.lit (.bool true)], args := [d] }
  | _ => none }
def fnExactReduceFlowRow : OpenClaim := { program := "ytkkifebmicbbaaa", sum := "e14935046f6fb89fd780e21a7d836c5d12a0423324154c10c3cab02ac0a10df8", func := "loop.example/g00662/laws.FnExactReduceFlow", spec := "fnExactReduceFlow", unfollowed := true, recurses := true, apart := false }
def FnExactReduceFlowSaid : Prop := fnExactReduceFlowRow.holds Try.pinned (OpenSpec.ofChange fnExactReduceFlowSpec)

/-- ITS FALSE NEIGHBOUR: 'it returns false'. Refute it at one input. -/
def fnExactReduceFlowWrong : ChangeSpec := { name := "fnExactReduceFlow", fn := fun _ => fun
  | [d] => { results := [.lit (.bool false)], args := [d] }
  | _ => none }
def FnExactReduceFlowWrongFalsely : Prop := fnExactReduceFlowRow.holds Try.pinned (OpenSpec.ofChange fnExactReduceFlowWrong)

/-- 'laws.FnHome': WHATEVER THE INPUT: true; the input reads as it did. -/
def fnHomeSpec : ChangeSpec := { name := "fnHome", fn := fun _ => fun
  | [d1, d2] => { results := [.lit (.bool true)], args := [d1, d2] }
  | _ => none }
def fnHomeRow : OpenClaim := { program := "ytkkifebmicbbaaa", sum := "e14935046f6fb89fd780e21a7d836c5d12a0423324154c10c3cab02ac0a10df8", func := "loop.example/g00662/laws.FnHome", spec := "fnHome", unfollowed := true, recurses := true, apart := false }
def FnHomeSaid : Prop := fnHomeRow.holds Try.pinned (OpenSpec.ofChange fnHomeSpec)

/-- ITS FALSE NEIGHBOUR: 'it returns false'. Refute it at one input. -/
def fnHomeWrong : ChangeSpec := { name := "fnHome", fn := fun _ => fun
  | [d1, d2] => { results := [.lit (.bool false)], args := [d1, d2] }
  | _ => none }
def FnHomeWrongFalsely : Prop := fnHomeRow.holds Try.pinned (OpenSpec.ofChange fnHomeWrong)

/-- 'laws.FnLeastMarks': WHATEVER THE INPUT: true; the input reads as it did. -/
def fnLeastMarksSpec : ChangeSpec := { name := "fnLeastMarks", fn := fun _ => fun
  | [d1, d2] => { results := [.lit (.bool true)], args := [d1, d2] }
  | _ => none }
def fnLeastMarksRow : OpenClaim := { program := "ytkkifebmicbbaaa", sum := "e14935046f6fb89fd780e21a7d836c5d12a0423324154c10c3cab02ac0a10df8", func := "loop.example/g00662/laws.FnLeastMarks", spec := "fnLeastMarks", unfollowed := true, recurses := true, apart := false }
def FnLeastMarksSaid : Prop := fnLeastMarksRow.holds Try.pinned (OpenSpec.ofChange fnLeastMarksSpec)

/-- ITS FALSE NEIGHBOUR: 'it returns false'. Refute it at one input. -/
def fnLeastMarksWrong : ChangeSpec := { name := "fnLeastMarks", fn := fun _ => fun
  | [d1, d2] => { results := [.lit (.bool false)], args := [d1, d2] }
  | _ => none }
def FnLeastMarksWrongFalsely : Prop := fnLeastMarksRow.holds Try.pinned (OpenSpec.ofChange fnLeastMarksWrong)

/-- 'laws.FnExactSilentFrom': WHATEVER THE INPUT: true; the input reads as it did. -/
def fnExactSilentFromSpec : ChangeSpec := { name := "fnExactSilentFrom", fn := fun _ => fun
  | [d1, d2, d3, d4] => { results := [.lit (.bool true)], args := [d1, d2, d3, d4] }
  | _ => none }
def fnExactSilentFromRow : OpenClaim := { program := "ytkkifebmicbbaaa", sum := "e14935046f6fb89fd780e21a7d836c5d12a0423324154c10c3cab02ac0a10df8", func := "loop.example/g00662/laws.FnExactSilentFrom", spec := "fnExactSilentFrom", unfollowed := true, recurses := true, apart := false }
def FnExactSilentFromSaid : Prop := fnExactSilentFromRow.holds Try.pinned (OpenSpec.ofChange fnExactSilentFromSpec)

/-- ITS FALSE NEIGHBOUR: 'it returns false'. Refute it at one input. -/
def fnExactSilentFromWrong : ChangeSpec := { name := "fnExactSilentFrom", fn := fun _ => fun
  | [d1, d2, d3, d4] => { results := [.lit (.bool false)], args := [d1, d2, d3, d4] }
  | _ => none }
def FnExactSilentFromWrongFalsely : Prop := fnExactSilentFromRow.holds Try.pinned (OpenSpec.ofChange fnExactSilentFromWrong)

/- THE SECOND FORM. 'bulk': how many values and letters a reading holds, each counted each time it is reached (what is shared counts as often as it is met; a slice's spare places count too). A statement '..UptoSaid' is the law's where the arguments, and the package variables that the reading takes, are together of bulk at most 1048576: NARROWER than '..Said'. Prove '..Said' where nothing that the law and all that it calls make is longer than what came in: it says more and counts as full. Else prove '..UptoSaid'. A law counts once. -/
mutual
def uptoBulk {H : Type} : DataW H → Nat
  | .lit (.string bytes) => bytes.length + 1
  | .lit _ => 1
  | .nil => 1
  | .ptr d => uptoBulk d + 1
  | .slice elems spare => uptoBulkAll elems + uptoBulkAll spare + 1
  | .agg parts => uptoBulkAll parts + 1
  | .iface _ d => uptoBulk d + 1
  | .map entries => uptoBulkEntries entries + 1
  | .held _ => 1
def uptoBulkAll {H : Type} : List (DataW H) → Nat
  | [] => 0
  | d :: r => uptoBulk d + uptoBulkAll r
def uptoBulkEntries {H : Type} : List (Lit × DataW H) → Nat
  | [] => 0
  | x :: r => uptoBulkEntry x + uptoBulkEntries r
def uptoBulkEntry {H : Type} : Lit × DataW H → Nat
  | (.string bytes, d) => bytes.length + uptoBulk d + 1
  | (_, d) => uptoBulk d + 1
 end
def uptoSmall : (H : Type) → List (DataW H) → Bool := fun _ ds => decide (uptoBulkAll ds ≤ 1048576)
def OpenSpec.upto (s : _root_.Go.ChangeSpec) : _root_.Go.OpenSpec := { _root_.Go.OpenSpec.ofChange s with cond := some uptoSmall }

/-- 'laws.FnExactFuseTrans', WHERE WHAT IT READS IS OF BULK AT MOST 1048576: true; the input reads as it did. -/
def fnExactFuseTransUptoRow : OpenClaim := { program := "ytkkifebmicbbaaa", sum := "e14935046f6fb89fd780e21a7d836c5d12a0423324154c10c3cab02ac0a10df8", func := "loop.example/g00662/laws.FnExactFuseTrans", spec := "fnExactFuseTrans", unfollowed := true, recurses := true, apart := false, narrowed := true }
def FnExactFuseTransUptoSaid : Prop := fnExactFuseTransUptoRow.holds Try.pinned (OpenSpec.upto fnExactFuseTransSpec)

/-- 'laws.FnExactFusePlaces', WHERE WHAT IT READS IS OF BULK AT MOST 1048576: true; the input reads as it did. -/
def fnExactFusePlacesUptoRow : OpenClaim := { program := "ytkkifebmicbbaaa", sum := "e14935046f6fb89fd780e21a7d836c5d12a0423324154c10c3cab02ac0a10df8", func := "loop.example/g00662/laws.FnExactFusePlaces", spec := "fnExactFusePlaces", unfollowed := true, recurses := true, apart := false, narrowed := true }
def FnExactFusePlacesUptoSaid : Prop := fnExactFusePlacesUptoRow.holds Try.pinned (OpenSpec.upto fnExactFusePlacesSpec)

/-- 'laws.FnExactJoinTrees', WHERE WHAT IT READS IS OF BULK AT MOST 1048576: true; the input reads as it did. -/
def fnExactJoinTreesUptoRow : OpenClaim := { program := "ytkkifebmicbbaaa", sum := "e14935046f6fb89fd780e21a7d836c5d12a0423324154c10c3cab02ac0a10df8", func := "loop.example/g00662/laws.FnExactJoinTrees", spec := "fnExactJoinTrees", apart := false, narrowed := true }
def FnExactJoinTreesUptoSaid : Prop := fnExactJoinTreesUptoRow.holds Try.pinned (OpenSpec.upto fnExactJoinTreesSpec)

/-- 'laws.FnExactTreeFlow', WHERE WHAT IT READS IS OF BULK AT MOST 1048576: true; the input reads as it did. -/
def fnExactTreeFlowUptoRow : OpenClaim := { program := "ytkkifebmicbbaaa", sum := "e14935046f6fb89fd780e21a7d836c5d12a0423324154c10c3cab02ac0a10df8", func := "loop.example/g00662/laws.FnExactTreeFlow", spec := "fnExactTreeFlow", unfollowed := true, recurses := true, apart := false, narrowed := true }
def FnExactTreeFlowUptoSaid : Prop := fnExactTreeFlowUptoRow.holds Try.pinned (OpenSpec.upto fnExactTreeFlowSpec)

/-- 'laws.FnExactReduceFlow', WHERE WHAT IT READS IS OF BULK AT MOST 1048576: true; the input reads as it did. -/
def fnExactReduceFlowUptoRow : OpenClaim := { program := "ytkkifebmicbbaaa", sum := "e14935046f6fb89fd780e21a7d836c5d12a0423324154c10c3cab02ac0a10df8", func := "loop.example/g00662/laws.FnExactReduceFlow", spec := "fnExactReduceFlow", unfollowed := true, recurses := true, apart := false, narrowed := true }
def FnExactReduceFlowUptoSaid : Prop := fnExactReduceFlowUptoRow.holds Try.pinned (OpenSpec.upto fnExactReduceFlowSpec)

/-- 'laws.FnHome', WHERE WHAT IT READS IS OF BULK AT MOST 1048576: true; the input reads as it did. -/
def fnHomeUptoRow : OpenClaim := { program := "ytkkifebmicbbaaa", sum := "e14935046f6fb89fd780e21a7d836c5d12a0423324154c10c3cab02ac0a10df8", func := "loop.example/g00662/laws.FnHome", spec := "fnHome", unfollowed := true, recurses := true, apart := false, narrowed := true }
def FnHomeUptoSaid : Prop := fnHomeUptoRow.holds Try.pinned (OpenSpec.upto fnHomeSpec)

/-- 'laws.FnLeastMarks', WHERE WHAT IT READS IS OF BULK AT MOST 1048576: true; the input reads as it did. -/
def fnLeastMarksUptoRow : OpenClaim := { program := "ytkkifebmicbbaaa", sum := "e14935046f6fb89fd780e21a7d836c5d12a0423324154c10c3cab02ac0a10df8", func := "loop.example/g00662/laws.FnLeastMarks", spec := "fnLeastMarks", unfollowed := true, recurses := true, apart := false, narrowed := true }
def FnLeastMarksUptoSaid : Prop := fnLeastMarksUptoRow.holds Try.pinned (OpenSpec.upto fnLeastMarksSpec)

/-- 'laws.FnExactSilentFrom', WHERE WHAT IT READS IS OF BULK AT MOST 1048576: true; the input reads as it did. -/
def fnExactSilentFromUptoRow : OpenClaim := { program := "ytkkifebmicbbaaa", sum := "e14935046f6fb89fd780e21a7d836c5d12a0423324154c10c3cab02ac0a10df8", func := "loop.example/g00662/laws.FnExactSilentFrom", spec := "fnExactSilentFrom", unfollowed := true, recurses := true, apart := false, narrowed := true }
def FnExactSilentFromUptoSaid : Prop := fnExactSilentFromUptoRow.holds Try.pinned (OpenSpec.upto fnExactSilentFromSpec)

end Rows
end Go.Proofs.Ytkkifebmicbbaaa
