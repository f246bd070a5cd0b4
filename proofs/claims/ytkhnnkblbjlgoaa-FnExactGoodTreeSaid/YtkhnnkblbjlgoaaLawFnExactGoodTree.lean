/- FnExactGoodTree: the row of the law out of its walk. No condition. -/
import Derived.Test.YtkhnnkblbjlgoaaRows
import Derived.Test.YtkhnnkblbjlgoaaOpen
import Derived.Test.YtkhnnkblbjlgoaaPureFnExactGoodTree
import Derived.WalkKit
import Derived.ProofKit
import Derived.OpenShut
import Derived.ShutString
import Derived.ChangeOld
import Derived.Below
import Derived.SizedLaws
import Derived.JoinedTies
namespace Go.Proofs.Ytkhnnkblbjlgoaa.fnExactGoodTree
open Go.ChangeShapes Go.WideShapes Go.ChangeAt Go.RowKit Go.Proofs.Ytkhnnkblbjlgoaa.Opn Go.Proofs.YtkhnnkblbjlgoaaW.PrintWords Go.Proofs.Ytkhnnkblbjlgoaa.PFnExactGoodTree
open Go.ChangeMaps (open_string shut_string)
set_option linter.unusedVariables false
theorem own : ownKnob Try.prog.godebug = none := by kernel_rfl
theorem laidOut : laidOutB Try.prog = true := by kernel_rfl
theorem op3 : Opens Try.prog (Kd.int .i64) 3 (WI .i64) := opens_int Try.underlying3 (by kernel_rfl)
theorem op62 : Opens Try.prog k62 62 (WF (fun x : S62 => (x.f0, x.f1)) (WP (WI .i64) (WI .i64))) := opens_struct (d := (Kd.pair (Kd.int .i64) (Kd.int .i64))) (fun x : S62 => (x.f0, x.f1)) (fun a => (⟨a.1, a.2⟩ : S62)) (fun _ => rfl) Try.underlying62 (by kernel_rfl) (.cons rfl op3 (.one rfl op3))
theorem op30 : Opens Try.prog (Kd.slice 62 k62) 30 (WL (WF (fun x : S62 => (x.f0, x.f1)) (WP (WI .i64) (WI .i64)))) := opens_slice Try.underlying30 (by kernel_rfl) op62
set_option maxRecDepth 100000 in
theorem lifted (os : Os) (started : os.Started) (H : Type) (enc : TypeId × Value → H) :
    ReturnsInHanded {} Try.checked os 5 .any (Rows.fnExactGoodTreeSpec.pre6 enc Try.prog Try.f5 Rows.fnExactGoodTreeRow.domain false) (Rows.fnExactGoodTreeSpec.post enc Try.prog Try.f5 false true false false) := by
  refine returnsInHanded_of_change_sized (C := Try.checked) own started (by kernel_rfl) Try.func5
    (ChangeSpec.witness6 (enc := enc) (C := Try.checked) false ⟨#[], #[.slice none 0 0], []⟩ 8 (by kernel_rfl) (by kernel_rfl) (by kernel_rfl) (by kernel_rfl)) ?_
  intro W base args ds gs before hval0 hW hcnd hsz0 _
  have hval : ∀ (j : Nat) t v, Try.f5.params[j]? = some t → args[j]? = some v → Value.okWide Try.prog W .any base t v := hval0
  have hW' := hW
  obtain ⟨p, q, hA0, hV, rfl, hfz, hnd⟩ := hW
  have hA : DataW.TrodAll enc Try.prog W 0 (fun _ => true) true Try.f5.params.toList args.toList ds p := hA0
  rw [Try.params5] at hA hval
  obtain ⟨v0, vs0, d0, ds0, p0, q0, hargs, rfl, rfl, h0, r0⟩ := trodAll_cons hA
  obtain ⟨rfl, rfl, rfl⟩ := trodAll_nil r0
  obtain rfl : args = #[v0] := by cases args; simp_all
  obtain ⟨rfl, rfl⟩ := trodVars_none hV
  have k0 := h0
  have lt0 := trod_blocks k0
  obtain ⟨A0, c0, l0, rfl, hl0, hC0, wf0⟩ := open_row Try.underlying30 (by kernel_rfl) op62 (hval 0 30 v0 rfl rfl) h0
  clear hA0 hval0 hsz0
  refine (show Calls Try.prog 5 #[.slice A0 l0.length c0] W _ from PureFnExactGoodTree.walk A0 c0 l0 W hC0 hl0).mono fun e W' ⟨he, bel⟩ => ?_
  subst he
  exact ⟨_, rfl, _, _, _, [], _, [], hW', trodAll_mk1 (shut_bool Try.underlying4 _), (trodAll_cons_mk (Below.trod laidOut (by kernel_rfl) (of_decide_eq_true (by kernel_rfl)) k0 bel lt0) trodAll_mk0), rfl, bel.frame _, fun h => by cases h⟩
theorem over : Rows.fnExactGoodTreeRow.holds Try.pinned (OpenSpec.ofChange Rows.fnExactGoodTreeSpec) :=
  OpenClaim.holds_of_wide 5 Try.f5 rfl rfl rfl rfl rfl rfl rfl ⟨rfl, rfl, rfl, rfl, rfl⟩ rfl rfl rfl rfl rfl (by kernel_rfl) Try.func5 (by kernel_rfl)
    (of_decide_eq_true (by kernel_rfl)) (by unfold Func.isWrapper; first | (rw [if_pos (by decide +kernel)]; kernel_rfl) | (rw [if_neg (by decide +kernel)]; exact ⟨rfl, rfl⟩))
    (fun os started H enc _ => lifted os started H enc)
theorem proved : Rows.FnExactGoodTreeSaid := over
#print axioms proved
end Go.Proofs.Ytkhnnkblbjlgoaa.fnExactGoodTree
namespace Go.Proofs.Ytkhnnkblbjlgoaa
theorem fnExactGoodTree_holds : Rows.FnExactGoodTreeSaid := fnExactGoodTree.proved
end Go.Proofs.Ytkhnnkblbjlgoaa
