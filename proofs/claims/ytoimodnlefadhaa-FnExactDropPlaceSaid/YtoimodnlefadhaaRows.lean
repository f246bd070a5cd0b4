/-
  No cell of these rows narrows 'for every input' (looked for: loops, veiled, ifaces, maps, wideKeys, modest, calm, conditions, laid).
  DERIVED. THE GIVEN ROWS OF THIS SEAT. 6 by the template 'for every input the law returns true; each argument reads behind the call as it read before'; 0 by the template 'total and deterministic' (their statements: YtoimodnlefadhaaTotals.lean).
  GIVEN WITH THE SEED: the statements are not yours to turn. If you find one false, say at which input.
  Laid BY PROGRAM, IN A SANDBOX (cutbox-rows.mjs): the forced cells as the released guide's own fill.sh prints them over the translation d9ac441cdfb7cad3… (all of the seat's roots in one cut). By AI agents, Wed Nov 11 2026. No macro, syntax, notation, axiom, sorry.
-/
import Derived.Test.YtoimodnlefadhaaChecked
import GoSem.Claim
import GoSem.ClaimJoined
import GoSem.ClaimMapViews
import Derived.JoinedTies
import Derived.KernelRfl
namespace Go.Proofs.Ytoimodnlefadhaa
/- THE CELL 'sum', in the pinned program and in every row, IS THE sha256 OF THE DUMP (.gsa) THAT YtoimodnlefadhaaProg.lean LOADS. Nothing in Lean hashes anything: it is a label: what it is worth is what the hold of that sum in a sandbox is worth. -/
noncomputable def Try.pinned : Pinned := { name := "ytoimodnlefadhaa", sum := "d9ac441cdfb7cad383a684d0080e5d73bbb2daa0696ea83da91767177e9fb12d", checked := Try.checked }
namespace Rows
def none {H : Type} : Left H := { results := [], args := [] }

/-- 'laws.FnExactGoodLetters': WHATEVER THE INPUT: true; the input reads as it did. -/
def fnExactGoodLettersSpec : ChangeSpec := { name := "fnExactGoodLetters", fn := fun _ => fun
  | [d1, d2] => { results := [.lit (.bool true)], args := [d1, d2] }
  | _ => none }
def fnExactGoodLettersRow : OpenClaim := { program := "ytoimodnlefadhaa", sum := "d9ac441cdfb7cad383a684d0080e5d73bbb2daa0696ea83da91767177e9fb12d", func := "loop.example/g00662/laws.FnExactGoodLetters", spec := "fnExactGoodLetters", unfollowed := true, recurses := true, apart := false }
def FnExactGoodLettersSaid : Prop := fnExactGoodLettersRow.holds Try.pinned (OpenSpec.ofChange fnExactGoodLettersSpec)

/-- ITS FALSE NEIGHBOUR: 'it returns false'. Refute it at one input. -/
def fnExactGoodLettersWrong : ChangeSpec := { name := "fnExactGoodLetters", fn := fun _ => fun
  | [d1, d2] => { results := [.lit (.bool false)], args := [d1, d2] }
  | _ => none }
def FnExactGoodLettersWrongFalsely : Prop := fnExactGoodLettersRow.holds Try.pinned (OpenSpec.ofChange fnExactGoodLettersWrong)

/-- 'laws.FnExactWordOf': WHATEVER THE INPUT: true; the input reads as it did. -/
def fnExactWordOfSpec : ChangeSpec := { name := "fnExactWordOf", fn := fun _ => fun
  | [d1, d2, d3] => { results := [.lit (.bool true)], args := [d1, d2, d3] }
  | _ => none }
def fnExactWordOfRow : OpenClaim := { program := "ytoimodnlefadhaa", sum := "d9ac441cdfb7cad383a684d0080e5d73bbb2daa0696ea83da91767177e9fb12d", func := "loop.example/g00662/laws.FnExactWordOf", spec := "fnExactWordOf", unfollowed := true, recurses := true, apart := false }
def FnExactWordOfSaid : Prop := fnExactWordOfRow.holds Try.pinned (OpenSpec.ofChange fnExactWordOfSpec)

/-- ITS FALSE NEIGHBOUR: 'it returns false'. Refute it at one input. -/
def fnExactWordOfWrong : ChangeSpec := { name := "fnExactWordOf", fn := fun _ => fun
  | [d1, d2, d3] => { results := [.lit (.bool false)], args := [d1, d2, d3] }
  | _ => none }
def FnExactWordOfWrongFalsely : Prop := fnExactWordOfRow.holds Try.pinned (OpenSpec.ofChange fnExactWordOfWrong)

/-- 'laws.FnExactShortestOf': WHATEVER THE INPUT: true; the input reads as it did. -/
def fnExactShortestOfSpec : ChangeSpec := { name := "fnExactShortestOf", fn := fun _ => fun
  | [d] => { results := [.lit (.bool true)], args := [d] }
  | _ => none }
def fnExactShortestOfRow : OpenClaim := { program := "ytoimodnlefadhaa", sum := "d9ac441cdfb7cad383a684d0080e5d73bbb2daa0696ea83da91767177e9fb12d", func := "loop.example/g00662/laws.FnExactShortestOf", spec := "fnExactShortestOf", recurses := true, apart := false }
def FnExactShortestOfSaid : Prop := fnExactShortestOfRow.holds Try.pinned (OpenSpec.ofChange fnExactShortestOfSpec)

/-- ITS FALSE NEIGHBOUR: 'it returns false'. Refute it at one input. -/
def fnExactShortestOfWrong : ChangeSpec := { name := "fnExactShortestOf", fn := fun _ => fun
  | [d] => { results := [.lit (.bool false)], args := [d] }
  | _ => none }
def FnExactShortestOfWrongFalsely : Prop := fnExactShortestOfRow.holds Try.pinned (OpenSpec.ofChange fnExactShortestOfWrong)

/-- 'laws.FnExactSpecFlow': WHATEVER THE INPUT: true; the input reads as it did. -/
def fnExactSpecFlowSpec : ChangeSpec := { name := "fnExactSpecFlow", fn := fun _ => fun
  | [d] => { results := [.lit (.bool true)], args := [d] }
  | _ => none }
def fnExactSpecFlowRow : OpenClaim := { program := "ytoimodnlefadhaa", sum := "d9ac441cdfb7cad383a684d0080e5d73bbb2daa0696ea83da91767177e9fb12d", func := "loop.example/g00662/laws.FnExactSpecFlow", spec := "fnExactSpecFlow", unfollowed := true, recurses := true, apart := false }
def FnExactSpecFlowSaid : Prop := fnExactSpecFlowRow.holds Try.pinned (OpenSpec.ofChange fnExactSpecFlowSpec)

/-- ITS FALSE NEIGHBOUR: 'it returns false'. Refute it at one input. -/
def fnExactSpecFlowWrong : ChangeSpec := { name := "fnExactSpecFlow", fn := fun _ => fun
  | [d] => { results := [.lit (.bool false)], args := [d] }
  | _ => none }
def FnExactSpecFlowWrongFalsely : Prop := fnExactSpecFlowRow.holds Try.pinned (OpenSpec.ofChange fnExactSpecFlowWrong)

/-- 'laws.FnExactJoinTrees': WHATEVER THE INPUT: true; the input reads as it did. -/
def fnExactJoinTreesSpec : ChangeSpec := { name := "fnExactJoinTrees", fn := fun _ => fun
  | [d1, d2, d3] => { results := [.lit (.bool true)], args := [d1, d2, d3] }
  | _ => none }
def fnExactJoinTreesRow : OpenClaim := { program := "ytoimodnlefadhaa", sum := "d9ac441cdfb7cad383a684d0080e5d73bbb2daa0696ea83da91767177e9fb12d", func := "loop.example/g00662/laws.FnExactJoinTrees", spec := "fnExactJoinTrees", apart := false }
def FnExactJoinTreesSaid : Prop := fnExactJoinTreesRow.holds Try.pinned (OpenSpec.ofChange fnExactJoinTreesSpec)

/-- ITS FALSE NEIGHBOUR: 'it returns false'. Refute it at one input. -/
def fnExactJoinTreesWrong : ChangeSpec := { name := "fnExactJoinTrees", fn := fun _ => fun
  | [d1, d2, d3] => { results := [.lit (.bool false)], args := [d1, d2, d3] }
  | _ => none }
def FnExactJoinTreesWrongFalsely : Prop := fnExactJoinTreesRow.holds Try.pinned (OpenSpec.ofChange fnExactJoinTreesWrong)

/-- 'laws.FnExactDropPlace': WHATEVER THE INPUT: true; the input reads as it did. -/
def fnExactDropPlaceSpec : ChangeSpec := { name := "fnExactDropPlace", fn := fun _ => fun
  | [d] => { results := [.lit (.bool true)], args := [d] }
  | _ => none }
def fnExactDropPlaceRow : OpenClaim := { program := "ytoimodnlefadhaa", sum := "d9ac441cdfb7cad383a684d0080e5d73bbb2daa0696ea83da91767177e9fb12d", func := "loop.example/g00662/laws.FnExactDropPlace", spec := "fnExactDropPlace", unfollowed := true, recurses := true, apart := false }
def FnExactDropPlaceSaid : Prop := fnExactDropPlaceRow.holds Try.pinned (OpenSpec.ofChange fnExactDropPlaceSpec)

/-- ITS FALSE NEIGHBOUR: 'it returns false'. Refute it at one input. -/
def fnExactDropPlaceWrong : ChangeSpec := { name := "fnExactDropPlace", fn := fun _ => fun
  | [d] => { results := [.lit (.bool false)], args := [d] }
  | _ => none }
def FnExactDropPlaceWrongFalsely : Prop := fnExactDropPlaceRow.holds Try.pinned (OpenSpec.ofChange fnExactDropPlaceWrong)

/- THE SECOND FORM. 'bulk': how many values and letters a reading holds, each counted each time it is reached (what is shared counts as often as it is met; a slice's spare places count too). A statement '..UptoSaid' is the law's where the arguments, and the package variables that the reading takes, are together of bulk at most 1048576: NARROWER than '..Said'. Prove '..Said' where nothing that the law and all that it calls make is longer than what came in: it says more and counts as full. Else prove '..UptoSaid'. A law counts once. -/
mutual
def uptoBulk {H : Type} : DataW H → Nat
  | .lit (.string bytes) => bytes.length + 1
  | .lit _ => 1
  | .nil => 1
  | .ptr d => uptoBulk d + 1
  | .slice elems spare => uptoBulkAll elems + uptoBulkAll spare + 1
  | .agg parts => uptoBulkAll parts + 1
  | .iface _ d => uptoBulk d + 1
  | .map entries => uptoBulkEntries entries + 1
  | .held _ => 1
def uptoBulkAll {H : Type} : List (DataW H) → Nat
  | [] => 0
  | d :: r => uptoBulk d + uptoBulkAll r
def uptoBulkEntries {H : Type} : List (Lit × DataW H) → Nat
  | [] => 0
  | x :: r => uptoBulkEntry x + uptoBulkEntries r
def uptoBulkEntry {H : Type} : Lit × DataW H → Nat
  | (.string bytes, d) => bytes.length + uptoBulk d + 1
  | (_, d) => uptoBulk d + 1
 end
def uptoSmall : (H : Type) → List (DataW H) → Bool := fun _ ds => decide (uptoBulkAll ds ≤ 1048576)
def OpenSpec.upto (s : _root_.Go.ChangeSpec) : _root_.Go.OpenSpec := { _root_.Go.OpenSpec.ofChange s with cond := some uptoSmall }

/-- 'laws.FnExactGoodLetters', WHERE WHAT IT READS IS OF BULK AT MOST 1048576: true; the input reads as it did. -/
def fnExactGoodLettersUptoRow : OpenClaim := { program := "ytoimodnlefadhaa", sum := "d9ac441cdfb7cad383a684d0080e5d73bbb2daa0696ea83da91767177e9fb12d", func := "loop.example/g00662/laws.FnExactGoodLetters", spec := "fnExactGoodLetters", unfollowed := true, recurses := true, apart := false, narrowed := true }
def FnExactGoodLettersUptoSaid : Prop := fnExactGoodLettersUptoRow.holds Try.pinned (OpenSpec.upto fnExactGoodLettersSpec)

/-- 'laws.FnExactWordOf', WHERE WHAT IT READS IS OF BULK AT MOST 1048576: true; the input reads as it did. -/
def fnExactWordOfUptoRow : OpenClaim := { program := "ytoimodnlefadhaa", sum := "d9ac441cdfb7cad383a684d0080e5d73bbb2daa0696ea83da91767177e9fb12d", func := "loop.example/g00662/laws.FnExactWordOf", spec := "fnExactWordOf", unfollowed := true, recurses := true, apart := false, narrowed := true }
def FnExactWordOfUptoSaid : Prop := fnExactWordOfUptoRow.holds Try.pinned (OpenSpec.upto fnExactWordOfSpec)

/-- 'laws.FnExactShortestOf', WHERE WHAT IT READS IS OF BULK AT MOST 1048576: true; the input reads as it did. -/
def fnExactShortestOfUptoRow : OpenClaim := { program := "ytoimodnlefadhaa", sum := "d9ac441cdfb7cad383a684d0080e5d73bbb2daa0696ea83da91767177e9fb12d", func := "loop.example/g00662/laws.FnExactShortestOf", spec := "fnExactShortestOf", recurses := true, apart := false, narrowed := true }
def FnExactShortestOfUptoSaid : Prop := fnExactShortestOfUptoRow.holds Try.pinned (OpenSpec.upto fnExactShortestOfSpec)

/-- 'laws.FnExactSpecFlow', WHERE WHAT IT READS IS OF BULK AT MOST 1048576: true; the input reads as it did. -/
def fnExactSpecFlowUptoRow : OpenClaim := { program := "ytoimodnlefadhaa", sum := "d9ac441cdfb7cad383a684d0080e5d73bbb2daa0696ea83da91767177e9fb12d", func := "loop.example/g00662/laws.FnExactSpecFlow", spec := "fnExactSpecFlow", unfollowed := true, recurses := true, apart := false, narrowed := true }
def FnExactSpecFlowUptoSaid : Prop := fnExactSpecFlowUptoRow.holds Try.pinned (OpenSpec.upto fnExactSpecFlowSpec)

/-- 'laws.FnExactJoinTrees', WHERE WHAT IT READS IS OF BULK AT MOST 1048576: true; the input reads as it did. -/
def fnExactJoinTreesUptoRow : OpenClaim := { program := "ytoimodnlefadhaa", sum := "d9ac441cdfb7cad383a684d0080e5d73bbb2daa0696ea83da91767177e9fb12d", func := "loop.example/g00662/laws.FnExactJoinTrees", spec := "fnExactJoinTrees", apart := false, narrowed := true }
def FnExactJoinTreesUptoSaid : Prop := fnExactJoinTreesUptoRow.holds Try.pinned (OpenSpec.upto fnExactJoinTreesSpec)

/-- 'laws.FnExactDropPlace', WHERE WHAT IT READS IS OF BULK AT MOST 1048576: true; the input reads as it did. -/
def fnExactDropPlaceUptoRow : OpenClaim := { program := "ytoimodnlefadhaa", sum := "d9ac441cdfb7cad383a684d0080e5d73bbb2daa0696ea83da91767177e9fb12d", func := "loop.example/g00662/laws.FnExactDropPlace", spec := "fnExactDropPlace", unfollowed := true, recurses := true, apart := false, narrowed := true }
def FnExactDropPlaceUptoSaid : Prop := fnExactDropPlaceUptoRow.holds Try.pinned (OpenSpec.upto fnExactDropPlaceSpec)

end Rows
end Go.Proofs.Ytoimodnlefadhaa
