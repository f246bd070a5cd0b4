/-
  No cell of these rows narrows 'for every input' (looked for: loops, veiled, ifaces, maps, wideKeys, modest, calm, conditions, laid).
  DERIVED. THE GIVEN ROWS OF THIS SEAT. 12 by the template 'for every input the law returns true; each argument reads behind the call as it read before'; 0 by the template 'total and deterministic' (their statements: YtblolnhajgmbdaaTotals.lean).
  GIVEN WITH THE SEED: the statements are not yours to turn. If you find one false, say at which input.
  Laid BY PROGRAM, IN A SANDBOX (cutbox-rows.mjs): the forced cells as the released guide's own fill.sh prints them over the translation 47ffc359ef7d3c32… (all of the seat's roots in one cut). By AI agents, Wed Nov 11 2026. No macro, syntax, notation, axiom, sorry.
-/
import Derived.Test.YtblolnhajgmbdaaChecked
import GoSem.Claim
import GoSem.ClaimJoined
import GoSem.ClaimMapViews
import Derived.JoinedTies
import Derived.KernelRfl
namespace Go.Proofs.Ytblolnhajgmbdaa
/- THE CELL 'sum', in the pinned program and in every row, IS THE sha256 OF THE DUMP (.gsa) THAT YtblolnhajgmbdaaProg.lean LOADS. Nothing in Lean hashes anything: it is a label: what it is worth is what the hold of that sum in a sandbox is worth. -/
noncomputable def Try.pinned : Pinned := { name := "ytblolnhajgmbdaa", sum := "47ffc359ef7d3c32a2c0dc08edc66f2d7332f9bea27e1dc7154572c6279d6cef", checked := Try.checked }
namespace Rows
def none {H : Type} : Left H := { results := [], args := [] }

/-- 'laws.FnExactGoodSpec': WHATEVER THE INPUT: true; the input reads as it did. -/
def fnExactGoodSpecSpec : ChangeSpec := { name := "fnExactGoodSpec", fn := fun _ => fun
  | [d] => { results := [.lit (.bool true)], args := [d] }
  | _ => none }
def fnExactGoodSpecRow : OpenClaim := { program := "ytblolnhajgmbdaa", sum := "47ffc359ef7d3c32a2c0dc08edc66f2d7332f9bea27e1dc7154572c6279d6cef", func := "loop.example/g00662/laws.FnExactGoodSpec", spec := "fnExactGoodSpec", unfollowed := true, recurses := true, apart := false }
def FnExactGoodSpecSaid : Prop := fnExactGoodSpecRow.holds Try.pinned (OpenSpec.ofChange fnExactGoodSpecSpec)

/-- ITS FALSE NEIGHBOUR: 'it returns false'. Refute it at one input. -/
def fnExactGoodSpecWrong : ChangeSpec := { name := "fnExactGoodSpec", fn := fun _ => fun
  | [d] => { results := [.lit (.bool false)], args := [d] }
  | _ => none }
def FnExactGoodSpecWrongFalsely : Prop := fnExactGoodSpecRow.holds Try.pinned (OpenSpec.ofChange fnExactGoodSpecWrong)

/-- 'laws.FnExactMoveNo': WHATEVER THE INPUT: true; the input reads as it did. -/
def fnExactMoveNoSpec : ChangeSpec := { name := "fnExactMoveNo", fn := fun _ => fun
  | [d1, d2] => { results := [.lit (.bool true)], args := [d1, d2] }
  | _ => none }
def fnExactMoveNoRow : OpenClaim := { program := "ytblolnhajgmbdaa", sum := "47ffc359ef7d3c32a2c0dc08edc66f2d7332f9bea27e1dc7154572c6279d6cef", func := "loop.example/g00662/laws.FnExactMoveNo", spec := "fnExactMoveNo", unfollowed := true, recurses := true, apart := false }
def FnExactMoveNoSaid : Prop := fnExactMoveNoRow.holds Try.pinned (OpenSpec.ofChange fnExactMoveNoSpec)

/-- ITS FALSE NEIGHBOUR: 'it returns false'. Refute it at one input. -/
def fnExactMoveNoWrong : ChangeSpec := { name := "fnExactMoveNo", fn := fun _ => fun
  | [d1, d2] => { results := [.lit (.bool false)], args := [d1, d2] }
  | _ => none }
def FnExactMoveNoWrongFalsely : Prop := fnExactMoveNoRow.holds Try.pinned (OpenSpec.ofChange fnExactMoveNoWrong)

/-- 'laws.FnExactRegionOf': WHATEVER THE INPUT: true; the input reads as it did. -/
def fnExactRegionOfSpec : ChangeSpec := { name := "fnExactRegionOf", fn := fun _ => fun
  | [d1, d2] => { results := [.lit (.bool true)], args := [d1, d2] }
  | _ => none }
def fnExactRegionOfRow : OpenClaim := { program := "ytblolnhajgmbdaa", sum := "47ffc359ef7d3c32a2c0dc08edc66f2d7332f9bea27e1dc7154572c6279d6cef", func := "loop.example/g00662/laws.FnExactRegionOf", spec := "fnExactRegionOf", unfollowed := true, recurses := true, apart := false }
def FnExactRegionOfSaid : Prop := fnExactRegionOfRow.holds Try.pinned (OpenSpec.ofChange fnExactRegionOfSpec)

/-- ITS FALSE NEIGHBOUR: 'it returns false'. Refute it at one input. -/
def fnExactRegionOfWrong : ChangeSpec := { name := "fnExactRegionOf", fn := fun _ => fun
  | [d1, d2] => { results := [.lit (.bool false)], args := [d1, d2] }
  | _ => none }
def FnExactRegionOfWrongFalsely : Prop := fnExactRegionOfRow.holds Try.pinned (OpenSpec.ofChange fnExactRegionOfWrong)

/-- 'laws.FnExactGoodCase': WHATEVER THE INPUT: true; the input reads as it did. -/
def fnExactGoodCaseSpec : ChangeSpec := { name := "fnExactGoodCase", fn := fun _ => fun
  | [d1, d2] => { results := [.lit (.bool true)], args := [d1, d2] }
  | _ => none }
def fnExactGoodCaseRow : OpenClaim := { program := "ytblolnhajgmbdaa", sum := "47ffc359ef7d3c32a2c0dc08edc66f2d7332f9bea27e1dc7154572c6279d6cef", func := "loop.example/g00662/laws.FnExactGoodCase", spec := "fnExactGoodCase", unfollowed := true, recurses := true, apart := false }
def FnExactGoodCaseSaid : Prop := fnExactGoodCaseRow.holds Try.pinned (OpenSpec.ofChange fnExactGoodCaseSpec)

/-- ITS FALSE NEIGHBOUR: 'it returns false'. Refute it at one input. -/
def fnExactGoodCaseWrong : ChangeSpec := { name := "fnExactGoodCase", fn := fun _ => fun
  | [d1, d2] => { results := [.lit (.bool false)], args := [d1, d2] }
  | _ => none }
def FnExactGoodCaseWrongFalsely : Prop := fnExactGoodCaseRow.holds Try.pinned (OpenSpec.ofChange fnExactGoodCaseWrong)

/-- 'laws.FnExactNewCase': WHATEVER THE INPUT: true; the input reads as it did. -/
def fnExactNewCaseSpec : ChangeSpec := { name := "fnExactNewCase", fn := fun _ => fun
  | [d] => { results := [.lit (.bool true)], args := [d] }
  | _ => none }
def fnExactNewCaseRow : OpenClaim := { program := "ytblolnhajgmbdaa", sum := "47ffc359ef7d3c32a2c0dc08edc66f2d7332f9bea27e1dc7154572c6279d6cef", func := "loop.example/g00662/laws.FnExactNewCase", spec := "fnExactNewCase", unfollowed := true, recurses := true, apart := false }
def FnExactNewCaseSaid : Prop := fnExactNewCaseRow.holds Try.pinned (OpenSpec.ofChange fnExactNewCaseSpec)

/-- ITS FALSE NEIGHBOUR: 'it returns false'. Refute it at one input. -/
def fnExactNewCaseWrong : ChangeSpec := { name := "fnExactNewCase", fn := fun _ => fun
  | [d] => { results := [.lit (.bool false)], args := [d] }
  | _ => none }
def FnExactNewCaseWrongFalsely : Prop := fnExactNewCaseRow.holds Try.pinned (OpenSpec.ofChange fnExactNewCaseWrong)

/-- 'laws.FnExactMovesOf': WHATEVER THE INPUT: true; the input reads as it did. -/
def fnExactMovesOfSpec : ChangeSpec := { name := "fnExactMovesOf", fn := fun _ => fun
  | [d] => { results := [.lit (.bool true)], args := [d] }
  | _ => none }
def fnExactMovesOfRow : OpenClaim := { program := "ytblolnhajgmbdaa", sum := "47ffc359ef7d3c32a2c0dc08edc66f2d7332f9bea27e1dc7154572c6279d6cef", func := "loop.example/g00662/laws.FnExactMovesOf", spec := "fnExactMovesOf", unfollowed := true, recurses := true, apart := false }
def FnExactMovesOfSaid : Prop := fnExactMovesOfRow.holds Try.pinned (OpenSpec.ofChange fnExactMovesOfSpec)

/-- ITS FALSE NEIGHBOUR: 'it returns false'. Refute it at one input. -/
def fnExactMovesOfWrong : ChangeSpec := { name := "fnExactMovesOf", fn := fun _ => fun
  | [d] => { results := [.lit (.bool false)], args := [d] }
  | _ => none }
def FnExactMovesOfWrongFalsely : Prop := fnExactMovesOfRow.holds Try.pinned (OpenSpec.ofChange fnExactMovesOfWrong)

/-- 'laws.FnLaidOut': WHATEVER THE INPUT: true; the input reads as it did. -/
def fnLaidOutSpec : ChangeSpec := { name := "fnLaidOut", fn := fun _ => fun
  | [d1, d2] => { results := [.lit (.bool true)], args := [d1, d2] }
  | _ => none }
def fnLaidOutRow : OpenClaim := { program := "ytblolnhajgmbdaa", sum := "47ffc359ef7d3c32a2c0dc08edc66f2d7332f9bea27e1dc7154572c6279d6cef", func := "loop.example/g00662/laws.FnLaidOut", spec := "fnLaidOut", unfollowed := true, recurses := true, apart := false }
def FnLaidOutSaid : Prop := fnLaidOutRow.holds Try.pinned (OpenSpec.ofChange fnLaidOutSpec)

/-- ITS FALSE NEIGHBOUR: 'it returns false'. Refute it at one input. -/
def fnLaidOutWrong : ChangeSpec := { name := "fnLaidOut", fn := fun _ => fun
  | [d1, d2] => { results := [.lit (.bool false)], args := [d1, d2] }
  | _ => none }
def FnLaidOutWrongFalsely : Prop := fnLaidOutRow.holds Try.pinned (OpenSpec.ofChange fnLaidOutWrong)

/-- 'laws.FnExactCancelCase': WHATEVER THE INPUT: true; the input reads as it did. -/
def fnExactCancelCaseSpec : ChangeSpec := { name := "fnExactCancelCase", fn := fun _ => fun
  | [d1, d2] => { results := [.lit (.bool true)], args := [d1, d2] }
  | _ => none }
def fnExactCancelCaseRow : OpenClaim := { program := "ytblolnhajgmbdaa", sum := "47ffc359ef7d3c32a2c0dc08edc66f2d7332f9bea27e1dc7154572c6279d6cef", func := "loop.example/g00662/laws.FnExactCancelCase", spec := "fnExactCancelCase", unfollowed := true, recurses := true, apart := false }
def FnExactCancelCaseSaid : Prop := fnExactCancelCaseRow.holds Try.pinned (OpenSpec.ofChange fnExactCancelCaseSpec)

/-- ITS FALSE NEIGHBOUR: 'it returns false'. Refute it at one input. -/
def fnExactCancelCaseWrong : ChangeSpec := { name := "fnExactCancelCase", fn := fun _ => fun
  | [d1, d2] => { results := [.lit (.bool false)], args := [d1, d2] }
  | _ => none }
def FnExactCancelCaseWrongFalsely : Prop := fnExactCancelCaseRow.holds Try.pinned (OpenSpec.ofChange fnExactCancelCaseWrong)

/-- 'laws.FnExactBusyIn': WHATEVER THE INPUT: true; the input reads as it did. -/
def fnExactBusyInSpec : ChangeSpec := { name := "fnExactBusyIn", fn := fun _ => fun
  | [d1, d2] => { results := [.lit (.bool true)], args := [d1, d2] }
  | _ => none }
def fnExactBusyInRow : OpenClaim := { program := "ytblolnhajgmbdaa", sum := "47ffc359ef7d3c32a2c0dc08edc66f2d7332f9bea27e1dc7154572c6279d6cef", func := "loop.example/g00662/laws.FnExactBusyIn", spec := "fnExactBusyIn", unfollowed := true, recurses := true, apart := false }
def FnExactBusyInSaid : Prop := fnExactBusyInRow.holds Try.pinned (OpenSpec.ofChange fnExactBusyInSpec)

/-- ITS FALSE NEIGHBOUR: 'it returns false'. Refute it at one input. -/
def fnExactBusyInWrong : ChangeSpec := { name := "fnExactBusyIn", fn := fun _ => fun
  | [d1, d2] => { results := [.lit (.bool false)], args := [d1, d2] }
  | _ => none }
def FnExactBusyInWrongFalsely : Prop := fnExactBusyInRow.holds Try.pinned (OpenSpec.ofChange fnExactBusyInWrong)

/-- 'laws.FnExactMovesIn': WHATEVER THE INPUT: true; the input reads as it did. -/
def fnExactMovesInSpec : ChangeSpec := { name := "fnExactMovesIn", fn := fun _ => fun
  | [d1, d2] => { results := [.lit (.bool true)], args := [d1, d2] }
  | _ => none }
def fnExactMovesInRow : OpenClaim := { program := "ytblolnhajgmbdaa", sum := "47ffc359ef7d3c32a2c0dc08edc66f2d7332f9bea27e1dc7154572c6279d6cef", func := "loop.example/g00662/laws.FnExactMovesIn", spec := "fnExactMovesIn", unfollowed := true, recurses := true, apart := false }
def FnExactMovesInSaid : Prop := fnExactMovesInRow.holds Try.pinned (OpenSpec.ofChange fnExactMovesInSpec)

/-- ITS FALSE NEIGHBOUR: 'it returns false'. Refute it at one input. -/
def fnExactMovesInWrong : ChangeSpec := { name := "fnExactMovesIn", fn := fun _ => fun
  | [d1, d2] => { results := [.lit (.bool false)], args := [d1, d2] }
  | _ => none }
def FnExactMovesInWrongFalsely : Prop := fnExactMovesInRow.holds Try.pinned (OpenSpec.ofChange fnExactMovesInWrong)

/-- 'laws.FnExactStepCase': WHATEVER THE INPUT: true; the input reads as it did. -/
def fnExactStepCaseSpec : ChangeSpec := { name := "fnExactStepCase", fn := fun _ => fun
  | [d1, d2, d3] => { results := [.lit (.bool true)], args := [d1, d2, d3] }
  | _ => none }
def fnExactStepCaseRow : OpenClaim := { program := "ytblolnhajgmbdaa", sum := "47ffc359ef7d3c32a2c0dc08edc66f2d7332f9bea27e1dc7154572c6279d6cef", func := "loop.example/g00662/laws.FnExactStepCase", spec := "fnExactStepCase", unfollowed := true, recurses := true, apart := false }
def FnExactStepCaseSaid : Prop := fnExactStepCaseRow.holds Try.pinned (OpenSpec.ofChange fnExactStepCaseSpec)

/-- ITS FALSE NEIGHBOUR: 'it returns false'. Refute it at one input. -/
def fnExactStepCaseWrong : ChangeSpec := { name := "fnExactStepCase", fn := fun _ => fun
  | [d1, d2, d3] => { results := [.lit (.bool false)], args := [d1, d2, d3] }
  | _ => none }
def FnExactStepCaseWrongFalsely : Prop := fnExactStepCaseRow.holds Try.pinned (OpenSpec.ofChange fnExactStepCaseWrong)

/-- 'laws.FnExactPlayCase': WHATEVER THE INPUT: true; the input reads as it did. -/
def fnExactPlayCaseSpec : ChangeSpec := { name := "fnExactPlayCase", fn := fun _ => fun
  | [d1, d2] => { results := [.lit (.bool true)], args := [d1, d2] }
  | _ => none }
def fnExactPlayCaseRow : OpenClaim := { program := "ytblolnhajgmbdaa", sum := "47ffc359ef7d3c32a2c0dc08edc66f2d7332f9bea27e1dc7154572c6279d6cef", func := "loop.example/g00662/laws.FnExactPlayCase", spec := "fnExactPlayCase", unfollowed := true, recurses := true, apart := false }
def FnExactPlayCaseSaid : Prop := fnExactPlayCaseRow.holds Try.pinned (OpenSpec.ofChange fnExactPlayCaseSpec)

/-- ITS FALSE NEIGHBOUR: 'it returns false'. Refute it at one input. -/
def fnExactPlayCaseWrong : ChangeSpec := { name := "fnExactPlayCase", fn := fun _ => fun
  | [d1, d2] => { results := [.lit (.bool false)], args := [d1, d2] }
  | _ => none }
def FnExactPlayCaseWrongFalsely : Prop := fnExactPlayCaseRow.holds Try.pinned (OpenSpec.ofChange fnExactPlayCaseWrong)

/- THE SECOND FORM. 'bulk': how many values and letters a reading holds, each counted each time it is reached (what is shared counts as often as it is met; a slice's spare places count too). A statement '..UptoSaid' is the law's where the arguments, and the package variables that the reading takes, are together of bulk at most 1048576: NARROWER than '..Said'. Prove '..Said' where nothing that the law and all that it calls make is longer than what came in: it says more and counts as full. Else prove '..UptoSaid'. A law counts once. -/
mutual
def uptoBulk {H : Type} : DataW H → Nat
  | .lit (.string bytes) => bytes.length + 1
  | .lit _ => 1
  | .nil => 1
  | .ptr d => uptoBulk d + 1
  | .slice elems spare => uptoBulkAll elems + uptoBulkAll spare + 1
  | .agg parts => uptoBulkAll parts + 1
  | .iface _ d => uptoBulk d + 1
  | .map entries => uptoBulkEntries entries + 1
  | .held _ => 1
def uptoBulkAll {H : Type} : List (DataW H) → Nat
  | [] => 0
  | d :: r => uptoBulk d + uptoBulkAll r
def uptoBulkEntries {H : Type} : List (Lit × DataW H) → Nat
  | [] => 0
  | x :: r => uptoBulkEntry x + uptoBulkEntries r
def uptoBulkEntry {H : Type} : Lit × DataW H → Nat
  | (.string bytes, d) => bytes.length + uptoBulk d + 1
  | (_, d) => uptoBulk d + 1
 end
def uptoSmall : (H : Type) → List (DataW H) → Bool := fun _ ds => decide (uptoBulkAll ds ≤ 1048576)
def OpenSpec.upto (s : _root_.Go.ChangeSpec) : _root_.Go.OpenSpec := { _root_.Go.OpenSpec.ofChange s with cond := some uptoSmall }

/-- 'laws.FnExactGoodSpec', WHERE WHAT IT READS IS OF BULK AT MOST 1048576: true; the input reads as it did. -/
def fnExactGoodSpecUptoRow : OpenClaim := { program := "ytblolnhajgmbdaa", sum := "47ffc359ef7d3c32a2c0dc08edc66f2d7332f9bea27e1dc7154572c6279d6cef", func := "loop.example/g00662/laws.FnExactGoodSpec", spec := "fnExactGoodSpec", unfollowed := true, recurses := true, apart := false, narrowed := true }
def FnExactGoodSpecUptoSaid : Prop := fnExactGoodSpecUptoRow.holds Try.pinned (OpenSpec.upto fnExactGoodSpecSpec)

/-- 'laws.FnExactMoveNo', WHERE WHAT IT READS IS OF BULK AT MOST 1048576: true; the input reads as it did. -/
def fnExactMoveNoUptoRow : OpenClaim := { program := "ytblolnhajgmbdaa", sum := "47ffc359ef7d3c32a2c0dc08edc66f2d7332f9bea27e1dc7154572c6279d6cef", func := "loop.example/g00662/laws.FnExactMoveNo", spec := "fnExactMoveNo", unfollowed := true, recurses := true, apart := false, narrowed := true }
def FnExactMoveNoUptoSaid : Prop := fnExactMoveNoUptoRow.holds Try.pinned (OpenSpec.upto fnExactMoveNoSpec)

/-- 'laws.FnExactRegionOf', WHERE WHAT IT READS IS OF BULK AT MOST 1048576: true; the input reads as it did. -/
def fnExactRegionOfUptoRow : OpenClaim := { program := "ytblolnhajgmbdaa", sum := "47ffc359ef7d3c32a2c0dc08edc66f2d7332f9bea27e1dc7154572c6279d6cef", func := "loop.example/g00662/laws.FnExactRegionOf", spec := "fnExactRegionOf", unfollowed := true, recurses := true, apart := false, narrowed := true }
def FnExactRegionOfUptoSaid : Prop := fnExactRegionOfUptoRow.holds Try.pinned (OpenSpec.upto fnExactRegionOfSpec)

/-- 'laws.FnExactGoodCase', WHERE WHAT IT READS IS OF BULK AT MOST 1048576: true; the input reads as it did. -/
def fnExactGoodCaseUptoRow : OpenClaim := { program := "ytblolnhajgmbdaa", sum := "47ffc359ef7d3c32a2c0dc08edc66f2d7332f9bea27e1dc7154572c6279d6cef", func := "loop.example/g00662/laws.FnExactGoodCase", spec := "fnExactGoodCase", unfollowed := true, recurses := true, apart := false, narrowed := true }
def FnExactGoodCaseUptoSaid : Prop := fnExactGoodCaseUptoRow.holds Try.pinned (OpenSpec.upto fnExactGoodCaseSpec)

/-- 'laws.FnExactNewCase', WHERE WHAT IT READS IS OF BULK AT MOST 1048576: true; the input reads as it did. -/
def fnExactNewCaseUptoRow : OpenClaim := { program := "ytblolnhajgmbdaa", sum := "47ffc359ef7d3c32a2c0dc08edc66f2d7332f9bea27e1dc7154572c6279d6cef", func := "loop.example/g00662/laws.FnExactNewCase", spec := "fnExactNewCase", unfollowed := true, recurses := true, apart := false, narrowed := true }
def FnExactNewCaseUptoSaid : Prop := fnExactNewCaseUptoRow.holds Try.pinned (OpenSpec.upto fnExactNewCaseSpec)

/-- 'laws.FnExactMovesOf', WHERE WHAT IT READS IS OF BULK AT MOST 1048576: true; the input reads as it did. -/
def fnExactMovesOfUptoRow : OpenClaim := { program := "ytblolnhajgmbdaa", sum := "47ffc359ef7d3c32a2c0dc08edc66f2d7332f9bea27e1dc7154572c6279d6cef", func := "loop.example/g00662/laws.FnExactMovesOf", spec := "fnExactMovesOf", unfollowed := true, recurses := true, apart := false, narrowed := true }
def FnExactMovesOfUptoSaid : Prop := fnExactMovesOfUptoRow.holds Try.pinned (OpenSpec.upto fnExactMovesOfSpec)

/-- 'laws.FnLaidOut', WHERE WHAT IT READS IS OF BULK AT MOST 1048576: true; the input reads as it did. -/
def fnLaidOutUptoRow : OpenClaim := { program := "ytblolnhajgmbdaa", sum := "47ffc359ef7d3c32a2c0dc08edc66f2d7332f9bea27e1dc7154572c6279d6cef", func := "loop.example/g00662/laws.FnLaidOut", spec := "fnLaidOut", unfollowed := true, recurses := true, apart := false, narrowed := true }
def FnLaidOutUptoSaid : Prop := fnLaidOutUptoRow.holds Try.pinned (OpenSpec.upto fnLaidOutSpec)

/-- 'laws.FnExactCancelCase', WHERE WHAT IT READS IS OF BULK AT MOST 1048576: true; the input reads as it did. -/
def fnExactCancelCaseUptoRow : OpenClaim := { program := "ytblolnhajgmbdaa", sum := "47ffc359ef7d3c32a2c0dc08edc66f2d7332f9bea27e1dc7154572c6279d6cef", func := "loop.example/g00662/laws.FnExactCancelCase", spec := "fnExactCancelCase", unfollowed := true, recurses := true, apart := false, narrowed := true }
def FnExactCancelCaseUptoSaid : Prop := fnExactCancelCaseUptoRow.holds Try.pinned (OpenSpec.upto fnExactCancelCaseSpec)

/-- 'laws.FnExactBusyIn', WHERE WHAT IT READS IS OF BULK AT MOST 1048576: true; the input reads as it did. -/
def fnExactBusyInUptoRow : OpenClaim := { program := "ytblolnhajgmbdaa", sum := "47ffc359ef7d3c32a2c0dc08edc66f2d7332f9bea27e1dc7154572c6279d6cef", func := "loop.example/g00662/laws.FnExactBusyIn", spec := "fnExactBusyIn", unfollowed := true, recurses := true, apart := false, narrowed := true }
def FnExactBusyInUptoSaid : Prop := fnExactBusyInUptoRow.holds Try.pinned (OpenSpec.upto fnExactBusyInSpec)

/-- 'laws.FnExactMovesIn', WHERE WHAT IT READS IS OF BULK AT MOST 1048576: true; the input reads as it did. -/
def fnExactMovesInUptoRow : OpenClaim := { program := "ytblolnhajgmbdaa", sum := "47ffc359ef7d3c32a2c0dc08edc66f2d7332f9bea27e1dc7154572c6279d6cef", func := "loop.example/g00662/laws.FnExactMovesIn", spec := "fnExactMovesIn", unfollowed := true, recurses := true, apart := false, narrowed := true }
def FnExactMovesInUptoSaid : Prop := fnExactMovesInUptoRow.holds Try.pinned (OpenSpec.upto fnExactMovesInSpec)

/-- 'laws.FnExactStepCase', WHERE WHAT IT READS IS OF BULK AT MOST 1048576: true; the input reads as it did. -/
def fnExactStepCaseUptoRow : OpenClaim := { program := "ytblolnhajgmbdaa", sum := "47ffc359ef7d3c32a2c0dc08edc66f2d7332f9bea27e1dc7154572c6279d6cef", func := "loop.example/g00662/laws.FnExactStepCase", spec := "fnExactStepCase", unfollowed := true, recurses := true, apart := false, narrowed := true }
def FnExactStepCaseUptoSaid : Prop := fnExactStepCaseUptoRow.holds Try.pinned (OpenSpec.upto fnExactStepCaseSpec)

/-- 'laws.FnExactPlayCase', WHERE WHAT IT READS IS OF BULK AT MOST 1048576: true; the input reads as it did. -/
def fnExactPlayCaseUptoRow : OpenClaim := { program := "ytblolnhajgmbdaa", sum := "47ffc359ef7d3c32a2c0dc08edc66f2d7332f9bea27e1dc7154572c6279d6cef", func := "loop.example/g00662/laws.FnExactPlayCase", spec := "fnExactPlayCase", unfollowed := true, recurses := true, apart := false, narrowed := true }
def FnExactPlayCaseUptoSaid : Prop := fnExactPlayCaseUptoRow.holds Try.pinned (OpenSpec.upto fnExactPlayCaseSpec)

end Rows
end Go.Proofs.Ytblolnhajgmbdaa
