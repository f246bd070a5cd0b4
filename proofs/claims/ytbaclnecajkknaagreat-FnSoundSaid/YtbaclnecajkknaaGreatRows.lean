/-
  No cell of these rows narrows 'for every input' (looked for: loops, veiled, ifaces, maps, wideKeys, modest, calm, conditions, laid).
  DERIVED. THE GIVEN ROWS OF THIS SEAT. 4 by the template 'for every input the law returns true; each argument reads behind the call as it read before'; 0 by the template 'total and deterministic' (their statements: YtbaclnecajkknaaGreatTotals.lean).
  GIVEN WITH THE SEED: the statements are not yours to turn. If you find one false, say at which input.
  Laid BY PROGRAM, IN A SANDBOX (cutbox-rows.mjs): the forced cells as the released guide's own fill.sh prints them over the translation 4ccf3afb07705658… (all of the seat's roots in one cut). By AI agents, Wed Nov 11 2026. No macro, syntax, notation, axiom, sorry.
-/
import Derived.Test.YtbaclnecajkknaaGreatChecked
import GoSem.Claim
import GoSem.ClaimJoined
import GoSem.ClaimMapViews
import Derived.JoinedTies
import Derived.KernelRfl
namespace Go.Proofs.YtbaclnecajkknaaGreat
/- THE CELL 'sum', in the pinned program and in every row, IS THE sha256 OF THE DUMP (.gsa) THAT YtbaclnecajkknaaGreatProg.lean LOADS. Nothing in Lean hashes anything: it is a label: what it is worth is what the hold of that sum in a sandbox is worth. -/
noncomputable def Tryz.pinned : Pinned := { name := "ytbaclnecajkknaagreat", sum := "4ccf3afb0770565885508d3075ee4f3c769fc6431e61d809187cc97cefeeb97a", checked := Tryz.checked }
namespace Rows
def none {H : Type} : Left H := { results := [], args := [] }

/-- 'laws.FnSound': WHATEVER THE INPUT: true; the input reads as it did. -/
def fnSoundSpec : ChangeSpec := { name := "fnSound", fn := fun _ => fun
  | [d1, d2] => { results := [.lit (.bool true)], args := [d1, d2] }
  | _ => none }
def fnSoundRow : OpenClaim := { program := "ytbaclnecajkknaagreat", sum := "4ccf3afb0770565885508d3075ee4f3c769fc6431e61d809187cc97cefeeb97a", func := "loop.example/g00662/laws.FnSound", spec := "fnSound", unfollowed := true, recurses := true, apart := false }
def FnSoundSaid : Prop := fnSoundRow.holds Tryz.pinned (OpenSpec.ofChange fnSoundSpec)

/-- ITS FALSE NEIGHBOUR: 'it returns false'. Refute it at one input. -/
def fnSoundWrong : ChangeSpec := { name := "fnSound", fn := fun _ => fun
  | [d1, d2] => { results := [.lit (.bool false)], args := [d1, d2] }
  | _ => none }
def FnSoundWrongFalsely : Prop := fnSoundRow.holds Tryz.pinned (OpenSpec.ofChange fnSoundWrong)

/-- 'laws.FnSilent': WHATEVER THE INPUT: true; the input reads as it did. -/
def fnSilentSpec : ChangeSpec := { name := "fnSilent", fn := fun _ => fun
  | [d1, d2] => { results := [.lit (.bool true)], args := [d1, d2] }
  | _ => none }
def fnSilentRow : OpenClaim := { program := "ytbaclnecajkknaagreat", sum := "4ccf3afb0770565885508d3075ee4f3c769fc6431e61d809187cc97cefeeb97a", func := "loop.example/g00662/laws.FnSilent", spec := "fnSilent", unfollowed := true, recurses := true, apart := false }
def FnSilentSaid : Prop := fnSilentRow.holds Tryz.pinned (OpenSpec.ofChange fnSilentSpec)

/-- ITS FALSE NEIGHBOUR: 'it returns false'. Refute it at one input. -/
def fnSilentWrong : ChangeSpec := { name := "fnSilent", fn := fun _ => fun
  | [d1, d2] => { results := [.lit (.bool false)], args := [d1, d2] }
  | _ => none }
def FnSilentWrongFalsely : Prop := fnSilentRow.holds Tryz.pinned (OpenSpec.ofChange fnSilentWrong)

/-- 'laws.FnBackward': WHATEVER THE INPUT: true; the input reads as it did. -/
def fnBackwardSpec : ChangeSpec := { name := "fnBackward", fn := fun _ => fun
  | [d1, d2] => { results := [.lit (.bool true)], args := [d1, d2] }
  | _ => none }
def fnBackwardRow : OpenClaim := { program := "ytbaclnecajkknaagreat", sum := "4ccf3afb0770565885508d3075ee4f3c769fc6431e61d809187cc97cefeeb97a", func := "loop.example/g00662/laws.FnBackward", spec := "fnBackward", unfollowed := true, recurses := true, apart := false }
def FnBackwardSaid : Prop := fnBackwardRow.holds Tryz.pinned (OpenSpec.ofChange fnBackwardSpec)

/-- ITS FALSE NEIGHBOUR: 'it returns false'. Refute it at one input. -/
def fnBackwardWrong : ChangeSpec := { name := "fnBackward", fn := fun _ => fun
  | [d1, d2] => { results := [.lit (.bool false)], args := [d1, d2] }
  | _ => none }
def FnBackwardWrongFalsely : Prop := fnBackwardRow.holds Tryz.pinned (OpenSpec.ofChange fnBackwardWrong)

/-- 'laws.FnReduced': WHATEVER THE INPUT: true; the input reads as it did. -/
def fnReducedSpec : ChangeSpec := { name := "fnReduced", fn := fun _ => fun
  | [d1, d2] => { results := [.lit (.bool true)], args := [d1, d2] }
  | _ => none }
def fnReducedRow : OpenClaim := { program := "ytbaclnecajkknaagreat", sum := "4ccf3afb0770565885508d3075ee4f3c769fc6431e61d809187cc97cefeeb97a", func := "loop.example/g00662/laws.FnReduced", spec := "fnReduced", unfollowed := true, recurses := true, apart := false }
def FnReducedSaid : Prop := fnReducedRow.holds Tryz.pinned (OpenSpec.ofChange fnReducedSpec)

/-- ITS FALSE NEIGHBOUR: 'it returns false'. Refute it at one input. -/
def fnReducedWrong : ChangeSpec := { name := "fnReduced", fn := fun _ => fun
  | [d1, d2] => { results := [.lit (.bool false)], args := [d1, d2] }
  | _ => none }
def FnReducedWrongFalsely : Prop := fnReducedRow.holds Tryz.pinned (OpenSpec.ofChange fnReducedWrong)

/- THE SECOND FORM. 'bulk': how many values and letters a reading holds, each counted each time it is reached (what is shared counts as often as it is met; a slice's spare places count too). A statement '..UptoSaid' is the law's where the arguments, and the package variables that the reading takes, are together of bulk at most 1048576: NARROWER than '..Said'. Prove '..Said' where nothing that the law and all that it calls make is longer than what came in: it says more and counts as full. Else prove '..UptoSaid'. A law counts once. -/
mutual
def uptoBulk {H : Type} : DataW H → Nat
  | .lit (.string bytes) => bytes.length + 1
  | .lit _ => 1
  | .nil => 1
  | .ptr d => uptoBulk d + 1
  | .slice elems spare => uptoBulkAll elems + uptoBulkAll spare + 1
  | .agg parts => uptoBulkAll parts + 1
  | .iface _ d => uptoBulk d + 1
  | .map entries => uptoBulkEntries entries + 1
  | .held _ => 1
def uptoBulkAll {H : Type} : List (DataW H) → Nat
  | [] => 0
  | d :: r => uptoBulk d + uptoBulkAll r
def uptoBulkEntries {H : Type} : List (Lit × DataW H) → Nat
  | [] => 0
  | x :: r => uptoBulkEntry x + uptoBulkEntries r
def uptoBulkEntry {H : Type} : Lit × DataW H → Nat
  | (.string bytes, d) => bytes.length + uptoBulk d + 1
  | (_, d) => uptoBulk d + 1
 end
def uptoSmall : (H : Type) → List (DataW H) → Bool := fun _ ds => decide (uptoBulkAll ds ≤ 1048576)
def OpenSpec.upto (s : _root_.Go.ChangeSpec) : _root_.Go.OpenSpec := { _root_.Go.OpenSpec.ofChange s with cond := some uptoSmall }

/-- 'laws.FnSound', WHERE WHAT IT READS IS OF BULK AT MOST 1048576: true; the input reads as it did. -/
def fnSoundUptoRow : OpenClaim := { program := "ytbaclnecajkknaagreat", sum := "4ccf3afb0770565885508d3075ee4f3c769fc6431e61d809187cc97cefeeb97a", func := "loop.example/g00662/laws.FnSound", spec := "fnSound", unfollowed := true, recurses := true, apart := false, narrowed := true }
def FnSoundUptoSaid : Prop := fnSoundUptoRow.holds Tryz.pinned (OpenSpec.upto fnSoundSpec)

/-- 'laws.FnSilent', WHERE WHAT IT READS IS OF BULK AT MOST 1048576: true; the input reads as it did. -/
def fnSilentUptoRow : OpenClaim := { program := "ytbaclnecajkknaagreat", sum := "4ccf3afb0770565885508d3075ee4f3c769fc6431e61d809187cc97cefeeb97a", func := "loop.example/g00662/laws.FnSilent", spec := "fnSilent", unfollowed := true, recurses := true, apart := false, narrowed := true }
def FnSilentUptoSaid : Prop := fnSilentUptoRow.holds Tryz.pinned (OpenSpec.upto fnSilentSpec)

/-- 'laws.FnBackward', WHERE WHAT IT READS IS OF BULK AT MOST 1048576: true; the input reads as it did. -/
def fnBackwardUptoRow : OpenClaim := { program := "ytbaclnecajkknaagreat", sum := "4ccf3afb0770565885508d3075ee4f3c769fc6431e61d809187cc97cefeeb97a", func := "loop.example/g00662/laws.FnBackward", spec := "fnBackward", unfollowed := true, recurses := true, apart := false, narrowed := true }
def FnBackwardUptoSaid : Prop := fnBackwardUptoRow.holds Tryz.pinned (OpenSpec.upto fnBackwardSpec)

/-- 'laws.FnReduced', WHERE WHAT IT READS IS OF BULK AT MOST 1048576: true; the input reads as it did. -/
def fnReducedUptoRow : OpenClaim := { program := "ytbaclnecajkknaagreat", sum := "4ccf3afb0770565885508d3075ee4f3c769fc6431e61d809187cc97cefeeb97a", func := "loop.example/g00662/laws.FnReduced", spec := "fnReduced", unfollowed := true, recurses := true, apart := false, narrowed := true }
def FnReducedUptoSaid : Prop := fnReducedUptoRow.holds Tryz.pinned (OpenSpec.upto fnReducedSpec)

end Rows
end Go.Proofs.YtbaclnecajkknaaGreat
