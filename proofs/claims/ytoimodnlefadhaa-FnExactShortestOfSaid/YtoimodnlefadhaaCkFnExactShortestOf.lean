/- The forms are those of the program. No condition. -/
import Derived.Test.YtoimodnlefadhaaChecked
import Derived.Test.YtoimodnlefadhaaIrFnExactShortestOf
import Derived.Test.YtoimodnlefadhaaPiTop
import Derived.Test.YtoimodnlefadhaaPiDz
import Derived.KernelRfl
namespace Go.Proofs.Ytoimodnlefadhaa.Pi
open Go
set_option linter.all false
def mf (f : FuncId) : Bool := [].contains f
theorem K_laws_szBranchS : compile Try.prog ⟨mf, false⟩ Try.f21 = some ir_laws_szBranchS := by kernel_rfl
theorem K_laws_toBranch : compile Try.prog ⟨mf, false⟩ Try.f54 = some ir_laws_toBranch := by kernel_rfl
theorem K_laws_toBranchS : compile Try.prog ⟨mf, false⟩ Try.f23 = some ir_laws_toBranchS := by kernel_rfl
theorem K_spec_l1In : compile Try.prog ⟨mf, false⟩ Try.f66 = some ir_spec_l1In := by kernel_rfl
theorem K_spec_l11Good : compile Try.prog ⟨mf, false⟩ Try.f52 = some ir_spec_l11Good := by kernel_rfl
theorem K_spec_l11First : compile Try.prog ⟨mf, false⟩ Try.f81 = some ir_spec_l11First := by kernel_rfl
theorem K_spec_l1Least : compile Try.prog ⟨mf, false⟩ Try.f82 = some ir_spec_l1Least := by kernel_rfl
theorem K_spec_l11Short : compile Try.prog ⟨mf, false⟩ Try.f53 = some ir_spec_l11Short := by kernel_rfl
theorem K_spec_ShortestOf : compile Try.prog ⟨mf, false⟩ Try.f22 = some ir_spec_ShortestOf := by kernel_rfl
theorem K_impl_within : compile Try.prog ⟨mf, false⟩ Try.f76 = some ir_impl_within := by kernel_rfl
theorem K_impl_isTree : compile Try.prog ⟨mf, false⟩ Try.f55 = some ir_impl_isTree := by kernel_rfl
theorem K_impl_ShortestOf : compile Try.prog ⟨mf, false⟩ Try.f24 = some ir_impl_ShortestOf := by kernel_rfl
theorem K_laws_eqBranch : compile Try.prog ⟨mf, false⟩ Try.f56 = some ir_laws_eqBranch := by kernel_rfl
theorem K_laws_eqBranchS : compile Try.prog ⟨mf, false⟩ Try.f25 = some ir_laws_eqBranchS := by kernel_rfl
theorem K_laws_FnExactShortestOf : compile Try.prog ⟨mf, false⟩ Try.f5 = some ir_laws_FnExactShortestOf := by kernel_rfl
theorem tblOk : ∀ p ∈ tbl, ∃ (fn : Func) (m : Md), Try.prog.funcs[p.1]? = some fn ∧ compile Try.prog m fn = some p.2 := by
  unfold tbl
  refine List.forall_mem_cons.2 ⟨⟨Try.f21, ⟨mf, false⟩, Try.func21, K_laws_szBranchS⟩, ?_⟩
  refine List.forall_mem_cons.2 ⟨⟨Try.f54, ⟨mf, false⟩, Try.func54, K_laws_toBranch⟩, ?_⟩
  refine List.forall_mem_cons.2 ⟨⟨Try.f23, ⟨mf, false⟩, Try.func23, K_laws_toBranchS⟩, ?_⟩
  refine List.forall_mem_cons.2 ⟨⟨Try.f66, ⟨mf, false⟩, Try.func66, K_spec_l1In⟩, ?_⟩
  refine List.forall_mem_cons.2 ⟨⟨Try.f52, ⟨mf, false⟩, Try.func52, K_spec_l11Good⟩, ?_⟩
  refine List.forall_mem_cons.2 ⟨⟨Try.f81, ⟨mf, false⟩, Try.func81, K_spec_l11First⟩, ?_⟩
  refine List.forall_mem_cons.2 ⟨⟨Try.f82, ⟨mf, false⟩, Try.func82, K_spec_l1Least⟩, ?_⟩
  refine List.forall_mem_cons.2 ⟨⟨Try.f53, ⟨mf, false⟩, Try.func53, K_spec_l11Short⟩, ?_⟩
  refine List.forall_mem_cons.2 ⟨⟨Try.f22, ⟨mf, false⟩, Try.func22, K_spec_ShortestOf⟩, ?_⟩
  refine List.forall_mem_cons.2 ⟨⟨Try.f76, ⟨mf, false⟩, Try.func76, K_impl_within⟩, ?_⟩
  refine List.forall_mem_cons.2 ⟨⟨Try.f55, ⟨mf, false⟩, Try.func55, K_impl_isTree⟩, ?_⟩
  refine List.forall_mem_cons.2 ⟨⟨Try.f24, ⟨mf, false⟩, Try.func24, K_impl_ShortestOf⟩, ?_⟩
  refine List.forall_mem_cons.2 ⟨⟨Try.f56, ⟨mf, false⟩, Try.func56, K_laws_eqBranch⟩, ?_⟩
  refine List.forall_mem_cons.2 ⟨⟨Try.f25, ⟨mf, false⟩, Try.func25, K_laws_eqBranchS⟩, ?_⟩
  refine List.forall_mem_cons.2 ⟨⟨Try.f5, ⟨mf, false⟩, Try.func5, K_laws_FnExactShortestOf⟩, ?_⟩
  exact fun _ h => (by cases h)
theorem hF (f : FuncId) (i : IFun) (h : F f = some i) : ∃ (fn : Func) (m : Md), Try.prog.funcs[f]? = some fn ∧ compile Try.prog m fn = some i := by
  unfold F at h
  simp only [Option.map_eq_some_iff] at h
  obtain ⟨p, hp, rfl⟩ := h
  have h1 := List.mem_of_find?_eq_some hp
  have h2 := List.find?_some hp
  have h3 : p.1 = f := by simpa using h2
  subst h3
  exact tblOk p h1
theorem hE (f : FuncId) (e : List PV → Option PV) (h : ext f = some e) : ExtOk Try.prog f e := by
  simp [ext, exts] at h
end Go.Proofs.Ytoimodnlefadhaa.Pi
