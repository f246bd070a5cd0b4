/- FnExactIsOver: the program's IsOver and the reference's answer alike, for every group. No condition. -/
import Derived.Test.YtkhnnkblbjlgoaaPFnExactIsOverx
namespace Go.Proofs.Ytkhnnkblbjlgoaa.PureFnExactIsOver
open Go.RowKit Go.Proofs.Ytkhnnkblbjlgoaa.PFnExactIsOver Go.Proofs.YtkhnnkblbjlgoaaW.PrintWords Go.Proofs.YtkhnnkblbjlgoaaW.PrintLast Go.Proofs.YtkhnnkblbjlgoaaW.PrintMore
theorem pure_true (a b c d e : Int) (o : Bool) : laws_FnExactIsOver.f 1 a b c d e o = some true := by
  have hl : spec_l1Least.f d c = some (mn d c) := by
    unfold spec_l1Least.f mn
    by_cases h : d < c <;> by_cases h' : c < d <;> simp [h, h'] <;> omega
  have hi : ∀ x y z, spec_l1In.f x y z = some (decide (y ≤ x ∧ x ≤ z)) := by
    intro x y z
    unfold spec_l1In.f
    by_cases h : x ≥ y <;> simp [h]
  have hw : ∀ x y z, impl_within.f x y z = some (decide (y ≤ x ∧ x ≤ z)) := hi
  have hg : spec_GoodGroup.f 1 a b c d e o = impl_isGroup.f a b c d e o := by
    simp only [spec_GoodGroup.f, spec_GoodGroup.j0, impl_isGroup.f, hl, hi, hw, Option.bind_some]
    by_cases h1 : (1 ≤ b ∧ b ≤ 20) <;> by_cases h2 : (1 ≤ a ∧ a ≤ b) <;> by_cases h3 : (1 ≤ c ∧ c ≤ b) <;> by_cases h4 : (a ≤ d ∧ d ≤ b) <;> simp [h1, h2, h3, h4]
  have ho : spec_l15Over.f a b c d e o = impl_isOverGroup.f a b c d e o := rfl
  obtain ⟨r, hr⟩ : ∃ r, impl_IsOver.f a b c d e o = some r := by
    simp only [impl_IsOver.f, impl_isGroup.f, impl_isOverGroup.f, hw, Option.bind_some]
    repeat' (first | exact ⟨_, rfl⟩ | split | simp only [Option.bind_some])
  have hs : spec_IsOver.f 1 a b c d e o = some r := by
    rw [← hr]
    simp only [spec_IsOver.f, impl_IsOver.f, hg, ho]
  simp only [laws_FnExactIsOver.f, laws_toGroup.f, hs, hr, Option.bind_some]
  simp
theorem walk (a b c d e : Int) (o : Bool) (W : World) : Calls Try.prog 4 #[.agg #[.int .i64 a, .int .i64 b, .int .i64 c, .int .i64 d, .int .i64 e, .bool o]] W fun e W' => e = .returned (.bool true) ∧ Below W.heap.size W W' :=
  laws_FnExactIsOver.calls 1 a b c d e o true W (pure_true a b c d e o)
end Go.Proofs.Ytkhnnkblbjlgoaa.PureFnExactIsOver
