/- FnExactIsOver: the row of the law out of its walk. No condition. -/
import Derived.Test.YtkhnnkblbjlgoaaRows
import Derived.Test.YtkhnnkblbjlgoaaOpen
import Derived.Test.YtkhnnkblbjlgoaaPureFnExactIsOver
import Derived.WalkKit
import Derived.ProofKit
import Derived.OpenShut
import Derived.ShutString
import Derived.ChangeOld
import Derived.Below
import Derived.SizedLaws
import Derived.JoinedTies
namespace Go.Proofs.Ytkhnnkblbjlgoaa.fnExactIsOver
open Go.ChangeShapes Go.WideShapes Go.ChangeAt Go.RowKit Go.Proofs.Ytkhnnkblbjlgoaa.Opn Go.Proofs.YtkhnnkblbjlgoaaW.PrintWords Go.Proofs.Ytkhnnkblbjlgoaa.PFnExactIsOver
open Go.ChangeMaps (open_string shut_string)
set_option linter.unusedVariables false
theorem own : ownKnob Try.prog.godebug = none := by kernel_rfl
theorem laidOut : laidOutB Try.prog = true := by kernel_rfl
theorem op3 : Opens Try.prog (Kd.int .i64) 3 (WI .i64) := opens_int Try.underlying3 (by kernel_rfl)
theorem op4 : Opens Try.prog Kd.bool 4 WB := opens_bool Try.underlying4 (by kernel_rfl)
theorem op23 : Opens Try.prog (Kd.iso (Kd.pair (Kd.int .i64) (Kd.pair (Kd.int .i64) (Kd.pair (Kd.int .i64) (Kd.pair (Kd.int .i64) (Kd.pair (Kd.int .i64) Kd.bool))))) id) 23 (WF id (WP (WI .i64) (WP (WI .i64) (WP (WI .i64) (WP (WI .i64) (WP (WI .i64) WB)))))) := opens_struct (d := (Kd.pair (Kd.int .i64) (Kd.pair (Kd.int .i64) (Kd.pair (Kd.int .i64) (Kd.pair (Kd.int .i64) (Kd.pair (Kd.int .i64) Kd.bool)))))) id id (fun _ => rfl) Try.underlying23 (by kernel_rfl) (.cons rfl op3 (.cons rfl op3 (.cons rfl op3 (.cons rfl op3 (.cons rfl op3 (.one rfl op4))))))
set_option maxRecDepth 100000 in
theorem lifted (os : Os) (started : os.Started) (H : Type) (enc : TypeId × Value → H) :
    ReturnsInHanded {} Try.checked os 4 .any (Rows.fnExactIsOverSpec.pre6 enc Try.prog Try.f4 Rows.fnExactIsOverRow.domain false) (Rows.fnExactIsOverSpec.post enc Try.prog Try.f4 false true false false) := by
  refine returnsInHanded_of_change_sized (C := Try.checked) own started (by kernel_rfl) Try.func4
    (ChangeSpec.witness6 (enc := enc) (C := Try.checked) false ⟨#[], #[.agg #[.int .i64 0, .int .i64 0, .int .i64 0, .int .i64 0, .int .i64 0, .bool false]], []⟩ 8 (by kernel_rfl) (by kernel_rfl) (by kernel_rfl) (by kernel_rfl)) ?_
  intro W base args ds gs before hval0 hW hcnd hsz0 _
  have hval : ∀ (j : Nat) t v, Try.f4.params[j]? = some t → args[j]? = some v → Value.okWide Try.prog W .any base t v := hval0
  have hW' := hW
  obtain ⟨p, q, hA0, hV, rfl, hfz, hnd⟩ := hW
  have hA : DataW.TrodAll enc Try.prog W 0 (fun _ => true) true Try.f4.params.toList args.toList ds p := hA0
  rw [Try.params4] at hA hval
  obtain ⟨v0, vs0, d0, ds0, p0, q0, hargs, rfl, rfl, h0, r0⟩ := trodAll_cons hA
  obtain ⟨rfl, rfl, rfl⟩ := trodAll_nil r0
  obtain rfl : args = #[v0] := by cases args; simp_all
  obtain ⟨rfl, rfl⟩ := trodVars_none hV
  have k0 := h0
  have lt0 := trod_blocks k0
  obtain ⟨⟨a0_0, a0_1, a0_2, a0_3, a0_4, a0_5⟩, cs0, rfl, K0, wf0⟩ := open_value Try.underlying23 op23 (hval 0 23 v0 rfl rfl) h0
  obtain ⟨_, _, rfl, rfl, ⟨_, _, rfl, rfl, ⟨_, _, rfl, rfl, ⟨_, _, rfl, rfl, ⟨_, _, rfl, rfl, rfl⟩⟩⟩⟩⟩ := K0
  clear hA0 hval0 hsz0
  refine (show Calls Try.prog 4 #[.agg #[.int .i64 a0_0, .int .i64 a0_1, .int .i64 a0_2, .int .i64 a0_3, .int .i64 a0_4, .bool a0_5]] W _ from PureFnExactIsOver.walk a0_0 a0_1 a0_2 a0_3 a0_4 a0_5 W ).mono fun e W' ⟨he, bel⟩ => ?_
  subst he
  exact ⟨_, rfl, _, _, _, [], _, [], hW', trodAll_mk1 (shut_bool Try.underlying4 _), (trodAll_cons_mk (Below.trod laidOut (by kernel_rfl) (of_decide_eq_true (by kernel_rfl)) k0 bel lt0) trodAll_mk0), rfl, bel.frame _, fun h => by cases h⟩
theorem over : Rows.fnExactIsOverRow.holds Try.pinned (OpenSpec.ofChange Rows.fnExactIsOverSpec) :=
  OpenClaim.holds_of_wide 4 Try.f4 rfl rfl rfl rfl rfl rfl rfl ⟨rfl, rfl, rfl, rfl, rfl⟩ rfl rfl rfl rfl rfl (by kernel_rfl) Try.func4 (by kernel_rfl)
    (of_decide_eq_true (by kernel_rfl)) (by unfold Func.isWrapper; first | (rw [if_pos (by decide +kernel)]; kernel_rfl) | (rw [if_neg (by decide +kernel)]; exact ⟨rfl, rfl⟩))
    (fun os started H enc _ => lifted os started H enc)
theorem proved : Rows.FnExactIsOverSaid := over
#print axioms proved
end Go.Proofs.Ytkhnnkblbjlgoaa.fnExactIsOver
namespace Go.Proofs.Ytkhnnkblbjlgoaa
theorem fnExactIsOver_holds : Rows.FnExactIsOverSaid := fnExactIsOver.proved
end Go.Proofs.Ytkhnnkblbjlgoaa
