/- FnGuarded: the law holds for every input. No condition. -/
import Derived.Test.YtldlbpdbbbajfaaRows
import Derived.Test.YtldlbpdbbbajfaaCkFnGuarded
import Derived.Test.YtldlbpdbbbajfaaFnFnGuarded0
import Derived.Test.YtldlbpdbbbajfaaFnFnGuarded1
import Derived.Test.YtldlbpdbbbajfaaPiOpen
import Derived.WalkKit
import Derived.ProofKit
import Derived.OpenShut
import Derived.ShutString
import Derived.ChangeOld
import Derived.Below
import Derived.SizedLaws
import Derived.JoinedTies
namespace Go.Proofs.Ytldlbpdbbbajfaa.fnGuarded
open Go.ChangeShapes Go.WideShapes Go.ChangeAt Go.RowKit Go.Proofs.Ytldlbpdbbbajfaa.Pi
set_option linter.all false
theorem own : ownKnob Try.prog.godebug = none := by kernel_rfl
theorem laidOut : laidOutB Try.prog = true := by kernel_rfl
theorem op5 : Opn Try.prog (PV.int .u8) 5 (fun n => (Lit.int .u8 n).wf = true) := opn_int Try.underlying5 (by kernel_rfl)
theorem op22 : Opn Try.prog (fun l : List Int => PV.sl true 1 (l.map (PV.int .u8))) 22 (fun l : List Int => l.length ≤ maxLen ∧ ∀ x ∈ l, (fun n => (Lit.int .u8 n).wf = true) x) := opn_slice Try.underlying22 (by kernel_rfl) (by kernel_rfl) (by decide) (fun _ => rfl) op5
set_option maxRecDepth 100000 in
theorem lifted (os : Os) (started : os.Started) (H : Type) (enc : TypeId × Value → H) :
    ReturnsInHanded {} Try.checked os 12 .any (Rows.fnGuardedSpec.pre6 enc Try.prog Try.f12 Rows.fnGuardedRow.domain false) (Rows.fnGuardedSpec.post enc Try.prog Try.f12 false true false false) := by
  refine returnsInHanded_of_change_sized (C := Try.checked) own started (by kernel_rfl) Try.func12
    (ChangeSpec.witness6 (enc := enc) (C := Try.checked) false ⟨#[], #[.slice none 0 0, .slice none 0 0], []⟩ 8 (by kernel_rfl) (by kernel_rfl) (by kernel_rfl) (by kernel_rfl)) ?_
  intro W base args ds gs before hval0 hW hcnd hsz0 _
  have hval : ∀ (j : Nat) t v, Try.f12.params[j]? = some t → args[j]? = some v → Value.okWide Try.prog W .any base t v := hval0
  have hW' := hW
  obtain ⟨p, q, hA0, hV, rfl, hfz, hnd⟩ := hW
  have hA : DataW.TrodAll enc Try.prog W 0 (fun _ => true) true Try.f12.params.toList args.toList ds p := hA0
  rw [Try.params12] at hA hval
  obtain ⟨v0, vs0, d0, ds0, p0, q0, hargs, rfl, rfl, h0, r0⟩ := trodAll_cons hA
  obtain ⟨v1, vs1, d1, ds1, p1, q1, rfl, rfl, rfl, h1, r1⟩ := trodAll_cons r0
  obtain ⟨rfl, rfl, rfl⟩ := trodAll_nil r1
  obtain rfl : args = #[v0, v1] := by cases args; simp_all
  obtain ⟨rfl, rfl⟩ := trodVars_none hV
  have k0 := h0
  have lt0 := blocks_lt k0
  obtain ⟨a0, e0, wf0⟩ := open_sl Try.underlying22 op22 (fun _ => rfl) (hval 0 22 v0 rfl rfl) h0
  have k1 := h1
  have lt1 := blocks_lt k1
  obtain ⟨a1, e1, wf1⟩ := open_sl Try.underlying22 op22 (fun _ => rfl) (hval 1 22 v1 rfl rfl) h1
  have main := Pi.laws_FnGuarded_ok a0 a1 (fun x hx => by have := bounds_u8 (wf0.2 x hx); omega) (fun x hx => by have := bounds_u8 (wf1.2 x hx); omega)
  clear hA0 hval0 hsz0
  refine (show Calls Try.prog 12 #[v0, v1] W _ from call_law (Checked.mixed Try.checked) hF hE main (vargs := [v0, v1]) ⟨v0, _, rfl, (RpI.up (fl := false) (sz := 1) rfl).2 e0, ⟨v1, _, rfl, (RpI.up (fl := false) (sz := 1) rfl).2 e1, rfl⟩⟩).mono fun e W' ⟨he, bel⟩ => ?_
  subst he
  exact ⟨_, rfl, _, _, _, [], _, [], hW', trodAll_mk1 (shut_bool Try.underlying4 _), (trodAll_cons_mk (Below.trod laidOut (by kernel_rfl) (of_decide_eq_true (by kernel_rfl)) k0 bel lt0) (trodAll_cons_mk (Below.trod laidOut (by kernel_rfl) (of_decide_eq_true (by kernel_rfl)) k1 bel lt1) trodAll_mk0)), rfl, bel.frame _, fun h => by cases h⟩
theorem over : Rows.fnGuardedRow.holds Try.pinned (OpenSpec.ofChange Rows.fnGuardedSpec) :=
  OpenClaim.holds_of_wide 12 Try.f12 rfl rfl rfl rfl rfl rfl rfl ⟨rfl, rfl, rfl, rfl, rfl⟩ rfl rfl rfl rfl rfl (by kernel_rfl) Try.func12 (by kernel_rfl)
    (of_decide_eq_true (by kernel_rfl)) (by unfold Func.isWrapper; first | (rw [if_pos (by decide +kernel)]; kernel_rfl) | (rw [if_neg (by decide +kernel)]; exact ⟨rfl, rfl⟩))
    (fun os started H enc _ => lifted os started H enc)
theorem proved : Rows.FnGuardedSaid := over
#print axioms proved
end Go.Proofs.Ytldlbpdbbbajfaa.fnGuarded
namespace Go.Proofs.Ytldlbpdbbbajfaa
theorem fnGuarded_holds : Rows.FnGuardedSaid := fnGuarded.proved
end Go.Proofs.Ytldlbpdbbbajfaa
