/- FnExactRegionOf: the law holds for every input. No condition. -/
import Derived.Test.YtblolnhajgmbdaaRows
import Derived.Test.YtblolnhajgmbdaaCkFnExactRegionOf
import Derived.Test.YtblolnhajgmbdaaFnFnExactRegionOf0
import Derived.Test.YtblolnhajgmbdaaFnFnExactRegionOf1
import Derived.Test.YtblolnhajgmbdaaPiOpen
import Derived.WalkKit
import Derived.ProofKit
import Derived.OpenShut
import Derived.ShutString
import Derived.ChangeOld
import Derived.Below
import Derived.SizedLaws
import Derived.JoinedTies
namespace Go.Proofs.Ytblolnhajgmbdaa.fnExactRegionOf
open Go.ChangeShapes Go.WideShapes Go.ChangeAt Go.RowKit Go.Proofs.Ytblolnhajgmbdaa.Pi
set_option linter.all false
theorem own : ownKnob Try.prog.godebug = none := by kernel_rfl
theorem laidOut : laidOutB Try.prog = true := by kernel_rfl
theorem op3 : Opn Try.prog (PV.int .i64) 3 (fun n => (Lit.int .i64 n).wf = true) := opn_int Try.underlying3 (by kernel_rfl)
theorem op40 : Opn Try.prog (fun l : List Int => PV.sl true 1 (l.map (PV.int .i64))) 40 (fun l : List Int => l.length ≤ maxLen ∧ ∀ x ∈ l, (fun n => (Lit.int .i64 n).wf = true) x) := opn_slice Try.underlying40 (by kernel_rfl) (by kernel_rfl) (by decide) (fun _ => rfl) op3
set_option maxRecDepth 100000 in
theorem op126 : Opn Try.prog encK 126 (fun x : Tk => (fun n => (Lit.int .i64 n).wf = true) x.join ∧ (fun n => (Lit.int .i64 n).wf = true) x.split ∧ (fun l : List Int => l.length ≤ maxLen ∧ ∀ x ∈ l, (fun n => (Lit.int .i64 n).wf = true) x) x.inn ∧ (fun l : List Int => l.length ≤ maxLen ∧ ∀ x ∈ l, (fun n => (Lit.int .i64 n).wf = true) x) x.out ∧ (fun l : List Int => l.length ≤ maxLen ∧ ∀ x ∈ l, (fun n => (Lit.int .i64 n).wf = true) x) x.cut ∧ (fun l : List Int => l.length ≤ maxLen ∧ ∀ x ∈ l, (fun n => (Lit.int .i64 n).wf = true) x) x.stop ∧ (fun n => (Lit.int .i64 n).wf = true) x.role) := opn_struct (fun x : Tk => (x.join, (x.split, (x.inn, (x.out, (x.cut, (x.stop, x.role))))))) (fun a => (⟨a.1, a.2.1, a.2.2.1, a.2.2.2.1, a.2.2.2.2.1, a.2.2.2.2.2.1, a.2.2.2.2.2.2⟩ : Tk)) (fun _ => rfl) Try.underlying126 (.cons rfl op3 (.cons rfl op3 (.cons rfl op40 (.cons rfl op40 (.cons rfl op40 (.cons rfl op40 (.one rfl op3))))))) (by kernel_rfl)
theorem op22 : Opn Try.prog (fun l : List Tk => PV.sl false 7 (l.map encK)) 22 (fun l : List Tk => l.length ≤ maxLen ∧ ∀ x ∈ l, (fun x : Tk => (fun n => (Lit.int .i64 n).wf = true) x.join ∧ (fun n => (Lit.int .i64 n).wf = true) x.split ∧ (fun l : List Int => l.length ≤ maxLen ∧ ∀ x ∈ l, (fun n => (Lit.int .i64 n).wf = true) x) x.inn ∧ (fun l : List Int => l.length ≤ maxLen ∧ ∀ x ∈ l, (fun n => (Lit.int .i64 n).wf = true) x) x.out ∧ (fun l : List Int => l.length ≤ maxLen ∧ ∀ x ∈ l, (fun n => (Lit.int .i64 n).wf = true) x) x.cut ∧ (fun l : List Int => l.length ≤ maxLen ∧ ∀ x ∈ l, (fun n => (Lit.int .i64 n).wf = true) x) x.stop ∧ (fun n => (Lit.int .i64 n).wf = true) x.role) x) := opn_slice Try.underlying22 (by kernel_rfl) (by kernel_rfl) (by decide) (fun _ => rfl) op126
set_option maxRecDepth 100000 in
theorem op24 : Opn Try.prog encS 24 (fun x : Spc => (fun n => (Lit.int .i64 n).wf = true) x.conds ∧ (fun l : List Tk => l.length ≤ maxLen ∧ ∀ x ∈ l, (fun x : Tk => (fun n => (Lit.int .i64 n).wf = true) x.join ∧ (fun n => (Lit.int .i64 n).wf = true) x.split ∧ (fun l : List Int => l.length ≤ maxLen ∧ ∀ x ∈ l, (fun n => (Lit.int .i64 n).wf = true) x) x.inn ∧ (fun l : List Int => l.length ≤ maxLen ∧ ∀ x ∈ l, (fun n => (Lit.int .i64 n).wf = true) x) x.out ∧ (fun l : List Int => l.length ≤ maxLen ∧ ∀ x ∈ l, (fun n => (Lit.int .i64 n).wf = true) x) x.cut ∧ (fun l : List Int => l.length ≤ maxLen ∧ ∀ x ∈ l, (fun n => (Lit.int .i64 n).wf = true) x) x.stop ∧ (fun n => (Lit.int .i64 n).wf = true) x.role) x) x.tasks) := opn_struct (fun x : Spc => (x.conds, x.tasks)) (fun a => (⟨a.1, a.2⟩ : Spc)) (fun _ => rfl) Try.underlying24 (.cons rfl op3 (.one rfl op22)) (by kernel_rfl)
set_option maxRecDepth 100000 in
theorem lifted (os : Os) (started : os.Started) (H : Type) (enc : TypeId × Value → H) :
    ReturnsInHanded {} Try.checked os 5 .any (Rows.fnExactRegionOfSpec.pre6 enc Try.prog Try.f5 Rows.fnExactRegionOfRow.domain false) (Rows.fnExactRegionOfSpec.post enc Try.prog Try.f5 false true false false) := by
  refine returnsInHanded_of_change_sized (C := Try.checked) own started (by kernel_rfl) Try.func5
    (ChangeSpec.witness6 (enc := enc) (C := Try.checked) false ⟨#[], #[.agg #[.int .i64 0, .slice none 0 0], .int .i64 0], []⟩ 8 (by kernel_rfl) (by kernel_rfl) (by kernel_rfl) (by kernel_rfl)) ?_
  intro W base args ds gs before hval0 hW hcnd hsz0 _
  have hval : ∀ (j : Nat) t v, Try.f5.params[j]? = some t → args[j]? = some v → Value.okWide Try.prog W .any base t v := hval0
  have hW' := hW
  obtain ⟨p, q, hA0, hV, rfl, hfz, hnd⟩ := hW
  have hA : DataW.TrodAll enc Try.prog W 0 (fun _ => true) true Try.f5.params.toList args.toList ds p := hA0
  rw [Try.params5] at hA hval
  obtain ⟨v0, vs0, d0, ds0, p0, q0, hargs, rfl, rfl, h0, r0⟩ := trodAll_cons hA
  obtain ⟨v1, vs1, d1, ds1, p1, q1, rfl, rfl, rfl, h1, r1⟩ := trodAll_cons r0
  obtain ⟨rfl, rfl, rfl⟩ := trodAll_nil r1
  obtain rfl : args = #[v0, v1] := by cases args; simp_all
  obtain ⟨rfl, rfl⟩ := trodVars_none hV
  have k0 := h0
  have lt0 := blocks_lt k0
  obtain ⟨a0, e0, wf0⟩ := open_struct Try.underlying24 op24 (fun _ => ⟨_, rfl⟩) (hval 0 24 v0 rfl rfl) h0
  have k1 := h1
  have lt1 := blocks_lt k1
  obtain ⟨a1, e1, wf1⟩ := open_i Try.underlying3 op3 (fun _ => rfl) (hval 1 3 v1 rfl rfl) h1
  have main := Pi.laws_FnExactRegionOf_ok a0 a1 (by have h := wf0.2.1; simp only [maxLen] at h; omega) (fun t h => by have q := wf0.2.2 t h; have q1 := q.2.2.1.1; have q2 := q.2.2.2.1.1; have q3 := q.2.2.2.2.1.1; have q4 := q.2.2.2.2.2.1.1; simp only [maxLen] at q1 q2 q3 q4; omega)
  clear hA0 hval0 hsz0
  refine (show Calls Try.prog 5 #[v0, v1] W _ from call_law (Checked.mixed Try.checked) hF hE main (vargs := [v0, v1]) ⟨v0, _, rfl, (RpI.up (fl := false) (sz := 2) rfl).2 e0, ⟨v1, _, rfl, (RpI.up (fl := false) (sz := 1) rfl).2 e1, rfl⟩⟩).mono fun e W' ⟨he, bel⟩ => ?_
  subst he
  exact ⟨_, rfl, _, _, _, [], _, [], hW', trodAll_mk1 (shut_bool Try.underlying4 _), (trodAll_cons_mk (Below.trod laidOut (by kernel_rfl) (of_decide_eq_true (by kernel_rfl)) k0 bel lt0) (trodAll_cons_mk (Below.trod laidOut (by kernel_rfl) (of_decide_eq_true (by kernel_rfl)) k1 bel lt1) trodAll_mk0)), rfl, bel.frame _, fun h => by cases h⟩
theorem over : Rows.fnExactRegionOfRow.holds Try.pinned (OpenSpec.ofChange Rows.fnExactRegionOfSpec) :=
  OpenClaim.holds_of_wide 5 Try.f5 rfl rfl rfl rfl rfl rfl rfl ⟨rfl, rfl, rfl, rfl, rfl⟩ rfl rfl rfl rfl rfl (by kernel_rfl) Try.func5 (by kernel_rfl)
    (of_decide_eq_true (by kernel_rfl)) (by unfold Func.isWrapper; first | (rw [if_pos (by decide +kernel)]; kernel_rfl) | (rw [if_neg (by decide +kernel)]; exact ⟨rfl, rfl⟩))
    (fun os started H enc _ => lifted os started H enc)
theorem proved : Rows.FnExactRegionOfSaid := over
#print axioms proved
end Go.Proofs.Ytblolnhajgmbdaa.fnExactRegionOf
namespace Go.Proofs.Ytblolnhajgmbdaa
theorem fnExactRegionOf_holds : Rows.FnExactRegionOfSaid := fnExactRegionOf.proved
end Go.Proofs.Ytblolnhajgmbdaa
