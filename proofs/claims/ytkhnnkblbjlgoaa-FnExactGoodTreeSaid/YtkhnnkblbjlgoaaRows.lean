/-
  No cell of these rows narrows 'for every input' (looked for: loops, veiled, ifaces, maps, wideKeys, modest, calm, conditions, laid).
  DERIVED. THE GIVEN ROWS OF THIS SEAT. 6 by the template 'for every input the law returns true; each argument reads behind the call as it read before'; 0 by the template 'total and deterministic' (their statements: YtkhnnkblbjlgoaaTotals.lean).
  GIVEN WITH THE SEED: the statements are not yours to turn. If you find one false, say at which input.
  Laid BY PROGRAM, IN A SANDBOX (cutbox-rows.mjs): the forced cells as the released guide's own fill.sh prints them over the translation 4e65819f8d9f6458… (all of the seat's roots in one cut). By AI agents, Wed Nov 11 2026. No macro, syntax, notation, axiom, sorry.
-/
import Derived.Test.YtkhnnkblbjlgoaaChecked
import GoSem.Claim
import GoSem.ClaimJoined
import GoSem.ClaimMapViews
import Derived.JoinedTies
import Derived.KernelRfl
namespace Go.Proofs.Ytkhnnkblbjlgoaa
/- THE CELL 'sum', in the pinned program and in every row, IS THE sha256 OF THE DUMP (.gsa) THAT YtkhnnkblbjlgoaaProg.lean LOADS. Nothing in Lean hashes anything: it is a label: what it is worth is what the hold of that sum in a sandbox is worth. -/
noncomputable def Try.pinned : Pinned := { name := "ytkhnnkblbjlgoaa", sum := "4e65819f8d9f6458e3f68225ca5c1dc9dfb1a068c9bc1c6bc60bf2f4c7666659", checked := Try.checked }
namespace Rows
def none {H : Type} : Left H := { results := [], args := [] }

/-- 'laws.FnExactGoodGroup': WHATEVER THE INPUT: true; the input reads as it did. -/
def fnExactGoodGroupSpec : ChangeSpec := { name := "fnExactGoodGroup", fn := fun _ => fun
  | [d] => { results := [.lit (.bool true)], args := [d] }
  | _ => none }
def fnExactGoodGroupRow : OpenClaim := { program := "ytkhnnkblbjlgoaa", sum := "4e65819f8d9f6458e3f68225ca5c1dc9dfb1a068c9bc1c6bc60bf2f4c7666659", func := "loop.example/g00662/laws.FnExactGoodGroup", spec := "fnExactGoodGroup", apart := false }
def FnExactGoodGroupSaid : Prop := fnExactGoodGroupRow.holds Try.pinned (OpenSpec.ofChange fnExactGoodGroupSpec)

/-- ITS FALSE NEIGHBOUR: 'it returns false'. Refute it at one input. -/
def fnExactGoodGroupWrong : ChangeSpec := { name := "fnExactGoodGroup", fn := fun _ => fun
  | [d] => { results := [.lit (.bool false)], args := [d] }
  | _ => none }
def FnExactGoodGroupWrongFalsely : Prop := fnExactGoodGroupRow.holds Try.pinned (OpenSpec.ofChange fnExactGoodGroupWrong)

/-- 'laws.FnExactIsOver': WHATEVER THE INPUT: true; the input reads as it did. -/
def fnExactIsOverSpec : ChangeSpec := { name := "fnExactIsOver", fn := fun _ => fun
  | [d] => { results := [.lit (.bool true)], args := [d] }
  | _ => none }
def fnExactIsOverRow : OpenClaim := { program := "ytkhnnkblbjlgoaa", sum := "4e65819f8d9f6458e3f68225ca5c1dc9dfb1a068c9bc1c6bc60bf2f4c7666659", func := "loop.example/g00662/laws.FnExactIsOver", spec := "fnExactIsOver", apart := false }
def FnExactIsOverSaid : Prop := fnExactIsOverRow.holds Try.pinned (OpenSpec.ofChange fnExactIsOverSpec)

/-- ITS FALSE NEIGHBOUR: 'it returns false'. Refute it at one input. -/
def fnExactIsOverWrong : ChangeSpec := { name := "fnExactIsOver", fn := fun _ => fun
  | [d] => { results := [.lit (.bool false)], args := [d] }
  | _ => none }
def FnExactIsOverWrongFalsely : Prop := fnExactIsOverRow.holds Try.pinned (OpenSpec.ofChange fnExactIsOverWrong)

/-- 'laws.FnExactGoodTree': WHATEVER THE INPUT: true; the input reads as it did. -/
def fnExactGoodTreeSpec : ChangeSpec := { name := "fnExactGoodTree", fn := fun _ => fun
  | [d] => { results := [.lit (.bool true)], args := [d] }
  | _ => none }
def fnExactGoodTreeRow : OpenClaim := { program := "ytkhnnkblbjlgoaa", sum := "4e65819f8d9f6458e3f68225ca5c1dc9dfb1a068c9bc1c6bc60bf2f4c7666659", func := "loop.example/g00662/laws.FnExactGoodTree", spec := "fnExactGoodTree", apart := false }
def FnExactGoodTreeSaid : Prop := fnExactGoodTreeRow.holds Try.pinned (OpenSpec.ofChange fnExactGoodTreeSpec)

/-- ITS FALSE NEIGHBOUR: 'it returns false'. Refute it at one input. -/
def fnExactGoodTreeWrong : ChangeSpec := { name := "fnExactGoodTree", fn := fun _ => fun
  | [d] => { results := [.lit (.bool false)], args := [d] }
  | _ => none }
def FnExactGoodTreeWrongFalsely : Prop := fnExactGoodTreeRow.holds Try.pinned (OpenSpec.ofChange fnExactGoodTreeWrong)

/-- 'laws.FnExactShortestOf': WHATEVER THE INPUT: true; the input reads as it did. -/
def fnExactShortestOfSpec : ChangeSpec := { name := "fnExactShortestOf", fn := fun _ => fun
  | [d] => { results := [.lit (.bool true)], args := [d] }
  | _ => none }
def fnExactShortestOfRow : OpenClaim := { program := "ytkhnnkblbjlgoaa", sum := "4e65819f8d9f6458e3f68225ca5c1dc9dfb1a068c9bc1c6bc60bf2f4c7666659", func := "loop.example/g00662/laws.FnExactShortestOf", spec := "fnExactShortestOf", recurses := true, apart := false }
def FnExactShortestOfSaid : Prop := fnExactShortestOfRow.holds Try.pinned (OpenSpec.ofChange fnExactShortestOfSpec)

/-- ITS FALSE NEIGHBOUR: 'it returns false'. Refute it at one input. -/
def fnExactShortestOfWrong : ChangeSpec := { name := "fnExactShortestOf", fn := fun _ => fun
  | [d] => { results := [.lit (.bool false)], args := [d] }
  | _ => none }
def FnExactShortestOfWrongFalsely : Prop := fnExactShortestOfRow.holds Try.pinned (OpenSpec.ofChange fnExactShortestOfWrong)

/-- 'laws.FnExactJoinTrees': WHATEVER THE INPUT: true; the input reads as it did. -/
def fnExactJoinTreesSpec : ChangeSpec := { name := "fnExactJoinTrees", fn := fun _ => fun
  | [d1, d2, d3] => { results := [.lit (.bool true)], args := [d1, d2, d3] }
  | _ => none }
def fnExactJoinTreesRow : OpenClaim := { program := "ytkhnnkblbjlgoaa", sum := "4e65819f8d9f6458e3f68225ca5c1dc9dfb1a068c9bc1c6bc60bf2f4c7666659", func := "loop.example/g00662/laws.FnExactJoinTrees", spec := "fnExactJoinTrees", apart := false }
def FnExactJoinTreesSaid : Prop := fnExactJoinTreesRow.holds Try.pinned (OpenSpec.ofChange fnExactJoinTreesSpec)

/-- ITS FALSE NEIGHBOUR: 'it returns false'. Refute it at one input. -/
def fnExactJoinTreesWrong : ChangeSpec := { name := "fnExactJoinTrees", fn := fun _ => fun
  | [d1, d2, d3] => { results := [.lit (.bool false)], args := [d1, d2, d3] }
  | _ => none }
def FnExactJoinTreesWrongFalsely : Prop := fnExactJoinTreesRow.holds Try.pinned (OpenSpec.ofChange fnExactJoinTreesWrong)

/-- 'laws.FnExactGoodLetters': WHATEVER THE INPUT: true; the input reads as it did. -/
def fnExactGoodLettersSpec : ChangeSpec := { name := "fnExactGoodLetters", fn := fun _ => fun
  | [d1, d2] => { results := [.lit (.bool true)], args := [d1, d2] }
  | _ => none }
def fnExactGoodLettersRow : OpenClaim := { program := "ytkhnnkblbjlgoaa", sum := "4e65819f8d9f6458e3f68225ca5c1dc9dfb1a068c9bc1c6bc60bf2f4c7666659", func := "loop.example/g00662/laws.FnExactGoodLetters", spec := "fnExactGoodLetters", unfollowed := true, recurses := true, apart := false }
def FnExactGoodLettersSaid : Prop := fnExactGoodLettersRow.holds Try.pinned (OpenSpec.ofChange fnExactGoodLettersSpec)

/-- ITS FALSE NEIGHBOUR: 'it returns false'. Refute it at one input. -/
def fnExactGoodLettersWrong : ChangeSpec := { name := "fnExactGoodLetters", fn := fun _ => fun
  | [d1, d2] => { results := [.lit (.bool false)], args := [d1, d2] }
  | _ => none }
def FnExactGoodLettersWrongFalsely : Prop := fnExactGoodLettersRow.holds Try.pinned (OpenSpec.ofChange fnExactGoodLettersWrong)

/- THE SECOND FORM. 'bulk': how many values and letters a reading holds, each counted each time it is reached (what is shared counts as often as it is met; a slice's spare places count too). A statement '..UptoSaid' is the law's where the arguments, and the package variables that the reading takes, are together of bulk at most 1048576: NARROWER than '..Said'. Prove '..Said' where nothing that the law and all that it calls make is longer than what came in: it says more and counts as full. Else prove '..UptoSaid'. A law counts once. -/
mutual
def uptoBulk {H : Type} : DataW H → Nat
  | .lit (.string bytes) => bytes.length + 1
  | .lit _ => 1
  | .nil => 1
  | .ptr d => uptoBulk d + 1
  | .slice elems spare => uptoBulkAll elems + uptoBulkAll spare + 1
  | .agg parts => uptoBulkAll parts + 1
  | .iface _ d => uptoBulk d + 1
  | .map entries => uptoBulkEntries entries + 1
  | .held _ => 1
def uptoBulkAll {H : Type} : List (DataW H) → Nat
  | [] => 0
  | d :: r => uptoBulk d + uptoBulkAll r
def uptoBulkEntries {H : Type} : List (Lit × DataW H) → Nat
  | [] => 0
  | x :: r => uptoBulkEntry x + uptoBulkEntries r
def uptoBulkEntry {H : Type} : Lit × DataW H → Nat
  | (.string bytes, d) => bytes.length + uptoBulk d + 1
  | (_, d) => uptoBulk d + 1
 end
def uptoSmall : (H : Type) → List (DataW H) → Bool := fun _ ds => decide (uptoBulkAll ds ≤ 1048576)
def OpenSpec.upto (s : _root_.Go.ChangeSpec) : _root_.Go.OpenSpec := { _root_.Go.OpenSpec.ofChange s with cond := some uptoSmall }

/-- 'laws.FnExactGoodGroup', WHERE WHAT IT READS IS OF BULK AT MOST 1048576: true; the input reads as it did. -/
def fnExactGoodGroupUptoRow : OpenClaim := { program := "ytkhnnkblbjlgoaa", sum := "4e65819f8d9f6458e3f68225ca5c1dc9dfb1a068c9bc1c6bc60bf2f4c7666659", func := "loop.example/g00662/laws.FnExactGoodGroup", spec := "fnExactGoodGroup", apart := false, narrowed := true }
def FnExactGoodGroupUptoSaid : Prop := fnExactGoodGroupUptoRow.holds Try.pinned (OpenSpec.upto fnExactGoodGroupSpec)

/-- 'laws.FnExactIsOver', WHERE WHAT IT READS IS OF BULK AT MOST 1048576: true; the input reads as it did. -/
def fnExactIsOverUptoRow : OpenClaim := { program := "ytkhnnkblbjlgoaa", sum := "4e65819f8d9f6458e3f68225ca5c1dc9dfb1a068c9bc1c6bc60bf2f4c7666659", func := "loop.example/g00662/laws.FnExactIsOver", spec := "fnExactIsOver", apart := false, narrowed := true }
def FnExactIsOverUptoSaid : Prop := fnExactIsOverUptoRow.holds Try.pinned (OpenSpec.upto fnExactIsOverSpec)

/-- 'laws.FnExactGoodTree', WHERE WHAT IT READS IS OF BULK AT MOST 1048576: true; the input reads as it did. -/
def fnExactGoodTreeUptoRow : OpenClaim := { program := "ytkhnnkblbjlgoaa", sum := "4e65819f8d9f6458e3f68225ca5c1dc9dfb1a068c9bc1c6bc60bf2f4c7666659", func := "loop.example/g00662/laws.FnExactGoodTree", spec := "fnExactGoodTree", apart := false, narrowed := true }
def FnExactGoodTreeUptoSaid : Prop := fnExactGoodTreeUptoRow.holds Try.pinned (OpenSpec.upto fnExactGoodTreeSpec)

/-- 'laws.FnExactShortestOf', WHERE WHAT IT READS IS OF BULK AT MOST 1048576: true; the input reads as it did. -/
def fnExactShortestOfUptoRow : OpenClaim := { program := "ytkhnnkblbjlgoaa", sum := "4e65819f8d9f6458e3f68225ca5c1dc9dfb1a068c9bc1c6bc60bf2f4c7666659", func := "loop.example/g00662/laws.FnExactShortestOf", spec := "fnExactShortestOf", recurses := true, apart := false, narrowed := true }
def FnExactShortestOfUptoSaid : Prop := fnExactShortestOfUptoRow.holds Try.pinned (OpenSpec.upto fnExactShortestOfSpec)

/-- 'laws.FnExactJoinTrees', WHERE WHAT IT READS IS OF BULK AT MOST 1048576: true; the input reads as it did. -/
def fnExactJoinTreesUptoRow : OpenClaim := { program := "ytkhnnkblbjlgoaa", sum := "4e65819f8d9f6458e3f68225ca5c1dc9dfb1a068c9bc1c6bc60bf2f4c7666659", func := "loop.example/g00662/laws.FnExactJoinTrees", spec := "fnExactJoinTrees", apart := false, narrowed := true }
def FnExactJoinTreesUptoSaid : Prop := fnExactJoinTreesUptoRow.holds Try.pinned (OpenSpec.upto fnExactJoinTreesSpec)

/-- 'laws.FnExactGoodLetters', WHERE WHAT IT READS IS OF BULK AT MOST 1048576: true; the input reads as it did. -/
def fnExactGoodLettersUptoRow : OpenClaim := { program := "ytkhnnkblbjlgoaa", sum := "4e65819f8d9f6458e3f68225ca5c1dc9dfb1a068c9bc1c6bc60bf2f4c7666659", func := "loop.example/g00662/laws.FnExactGoodLetters", spec := "fnExactGoodLetters", unfollowed := true, recurses := true, apart := false, narrowed := true }
def FnExactGoodLettersUptoSaid : Prop := fnExactGoodLettersUptoRow.holds Try.pinned (OpenSpec.upto fnExactGoodLettersSpec)

end Rows
end Go.Proofs.Ytkhnnkblbjlgoaa
