/- The forms are those of the program. No condition. -/
import Derived.Test.YtkkifebmicbbaaaChecked
import Derived.Test.YtkkifebmicbbaaaIrFnExactTreeFlow
import Derived.Test.YtkkifebmicbbaaaPiTop
import Derived.Test.YtkkifebmicbbaaaPiDz
import Derived.KernelRfl
namespace Go.Proofs.Ytkkifebmicbbaaa.Pi
open Go
set_option linter.all false
def mf (f : FuncId) : Bool := [151, 76, 154, 155, 79, 25, 30, 128, 60, 16].contains f
theorem K_laws_szBranchS : compile Try.prog ⟨mf, false⟩ Try.f20 = some ir_laws_szBranchS := by kernel_rfl
theorem K_laws_toBranch : compile Try.prog ⟨mf, false⟩ Try.f72 = some ir_laws_toBranch := by kernel_rfl
theorem K_laws_toBranchS : compile Try.prog ⟨mf, false⟩ Try.f22 = some ir_laws_toBranchS := by kernel_rfl
theorem K_spec_l1In : compile Try.prog ⟨mf, false⟩ Try.f71 = some ir_spec_l1In := by kernel_rfl
theorem K_spec_l11Good : compile Try.prog ⟨mf, false⟩ Try.f70 = some ir_spec_l11Good := by kernel_rfl
theorem K_spec_l11Build_trans : compile Try.prog ⟨mf, false⟩ Try.f151 = some ir_spec_l11Build_trans := by kernel_rfl
theorem K_spec_l11First : compile Try.prog ⟨mf, false⟩ Try.f152 = some ir_spec_l11First := by kernel_rfl
theorem K_spec_l11Build_part : compile Try.prog ⟨mf, false⟩ Try.f76 = some ir_spec_l11Build_part := by kernel_rfl
theorem K_spec_l1Places : compile Try.prog ⟨mf, false⟩ Try.f111 = some ir_spec_l1Places := by kernel_rfl
theorem K_spec_l1Rising : compile Try.prog ⟨mf, false⟩ Try.f226 = some ir_spec_l1Rising := by kernel_rfl
theorem K_spec_GoodNet : compile Try.prog ⟨mf, false⟩ Try.f193 = some ir_spec_GoodNet := by kernel_rfl
theorem K_spec_l3Forward : compile Try.prog ⟨mf, false⟩ Try.f204 = some ir_spec_l3Forward := by kernel_rfl
theorem K_spec_l3Back : compile Try.prog ⟨mf, false⟩ Try.f205 = some ir_spec_l3Back := by kernel_rfl
theorem K_spec_l3Both : compile Try.prog ⟨mf, false⟩ Try.f206 = some ir_spec_l3Both := by kernel_rfl
theorem K_spec_OnWay : compile Try.prog ⟨mf, false⟩ Try.f153 = some ir_spec_OnWay := by kernel_rfl
theorem K_spec_l1Has : compile Try.prog ⟨mf, false⟩ Try.f147 = some ir_spec_l1Has := by kernel_rfl
theorem K_spec_GoodFlow : compile Try.prog ⟨mf, false⟩ Try.f77 = some ir_spec_GoodFlow := by kernel_rfl
theorem K_spec_TreeFlow : compile Try.prog ⟨mf, false⟩ Try.f27 = some ir_spec_TreeFlow := by kernel_rfl
theorem K_impl_within : compile Try.prog ⟨mf, false⟩ Try.f108 = some ir_impl_within := by kernel_rfl
theorem K_impl_isTree : compile Try.prog ⟨mf, false⟩ Try.f73 = some ir_impl_isTree := by kernel_rfl
theorem K_impl_parsed : compile Try.prog ⟨mf, false⟩ Try.f78 = some ir_impl_parsed := by kernel_rfl
theorem K_impl_treeBuild_trans : compile Try.prog ⟨mf, true⟩ Try.f154 = some ir_impl_treeBuild_trans := by kernel_rfl
theorem K_impl_treeBuild_place : compile Try.prog ⟨mf, true⟩ Try.f155 = some ir_impl_treeBuild_place := by kernel_rfl
theorem K_impl_treeBuild_build : compile Try.prog ⟨mf, true⟩ Try.f79 = some ir_impl_treeBuild_build := by kernel_rfl
theorem K_impl_increasing : compile Try.prog ⟨mf, false⟩ Try.f237 = some ir_impl_increasing := by kernel_rfl
theorem K_impl_allWithin : compile Try.prog ⟨mf, false⟩ Try.f163 = some ir_impl_allWithin := by kernel_rfl
theorem K_impl_arePlaces : compile Try.prog ⟨mf, false⟩ Try.f208 = some ir_impl_arePlaces := by kernel_rfl
theorem K_impl_GoodNet_1 : compile Try.prog ⟨mf, false⟩ Try.f207 = some ir_impl_GoodNet_1 := by kernel_rfl
theorem K_slices_IndexFunc_sl_impl_Trans_impl_Trans : compile Try.prog ⟨mf, false⟩ Try.f203 = some ir_slices_IndexFunc_sl_impl_Trans_impl_Trans := by kernel_rfl
theorem K_slices_ContainsFunc_sl_impl_Trans_impl_Trans : compile Try.prog ⟨mf, false⟩ Try.f148 = some ir_slices_ContainsFunc_sl_impl_Trans_impl_Trans := by kernel_rfl
theorem K_impl_GoodNet : compile Try.prog ⟨mf, false⟩ Try.f156 = some ir_impl_GoodNet := by kernel_rfl
theorem K_slices_Index_sl_int_int : compile Try.prog ⟨mf, false⟩ Try.f195 = some ir_slices_Index_sl_int_int := by kernel_rfl
theorem K_slices_Contains_sl_int_int : compile Try.prog ⟨mf, false⟩ Try.f125 = some ir_slices_Contains_sl_int_int := by kernel_rfl
theorem K_impl_reachedFrom_1 : compile Try.prog ⟨mf, false⟩ Try.f238 = some ir_impl_reachedFrom_1 := by kernel_rfl
theorem K_slices_IndexFunc_sl_int_int : compile Try.prog ⟨mf, false⟩ Try.f240 = some ir_slices_IndexFunc_sl_int_int := by kernel_rfl
theorem K_slices_ContainsFunc_sl_int_int : compile Try.prog ⟨mf, false⟩ Try.f222 = some ir_slices_ContainsFunc_sl_int_int := by kernel_rfl
theorem K_impl_reachedFrom : compile Try.prog ⟨mf, false⟩ Try.f209 = some ir_impl_reachedFrom := by kernel_rfl
theorem K_impl_bothOf : compile Try.prog ⟨mf, false⟩ Try.f210 = some ir_impl_bothOf := by kernel_rfl
theorem K_impl_onWay : compile Try.prog ⟨mf, false⟩ Try.f157 = some ir_impl_onWay := by kernel_rfl
theorem K_impl_GoodFlow : compile Try.prog ⟨mf, false⟩ Try.f80 = some ir_impl_GoodFlow := by kernel_rfl
theorem K_impl_TreeFlow : compile Try.prog ⟨mf, true⟩ Try.f28 = some ir_impl_TreeFlow := by kernel_rfl
theorem K_laws_eqIntS : compile Try.prog ⟨mf, false⟩ Try.f29 = some ir_laws_eqIntS := by kernel_rfl
theorem K_laws_eqTrans : compile Try.prog ⟨mf, false⟩ Try.f198 = some ir_laws_eqTrans := by kernel_rfl
theorem K_laws_eqTransS : compile Try.prog ⟨mf, false⟩ Try.f127 = some ir_laws_eqTransS := by kernel_rfl
theorem K_laws_eqNet : compile Try.prog ⟨mf, false⟩ Try.f59 = some ir_laws_eqNet := by kernel_rfl
theorem K_laws_eqFlow : compile Try.prog ⟨mf, false⟩ Try.f15 = some ir_laws_eqFlow := by kernel_rfl
theorem K_laws_eqBranch : compile Try.prog ⟨mf, false⟩ Try.f75 = some ir_laws_eqBranch := by kernel_rfl
theorem K_laws_eqBranchS : compile Try.prog ⟨mf, false⟩ Try.f24 = some ir_laws_eqBranchS := by kernel_rfl
theorem K_laws_markBranchS : compile Try.prog ⟨mf, true⟩ Try.f25 = some ir_laws_markBranchS := by kernel_rfl
theorem K_laws_markIntS : compile Try.prog ⟨mf, true⟩ Try.f30 = some ir_laws_markIntS := by kernel_rfl
theorem K_laws_markTransS : compile Try.prog ⟨mf, true⟩ Try.f128 = some ir_laws_markTransS := by kernel_rfl
theorem K_laws_markNet : compile Try.prog ⟨mf, true⟩ Try.f60 = some ir_laws_markNet := by kernel_rfl
theorem K_laws_markFlow : compile Try.prog ⟨mf, true⟩ Try.f16 = some ir_laws_markFlow := by kernel_rfl
theorem K_laws_heldIntS : compile Try.prog ⟨mf, false⟩ Try.f31 = some ir_laws_heldIntS := by kernel_rfl
theorem K_laws_heldTransS : compile Try.prog ⟨mf, false⟩ Try.f145 = some ir_laws_heldTransS := by kernel_rfl
theorem K_laws_heldNet : compile Try.prog ⟨mf, false⟩ Try.f67 = some ir_laws_heldNet := by kernel_rfl
theorem K_laws_heldFlow : compile Try.prog ⟨mf, false⟩ Try.f17 = some ir_laws_heldFlow := by kernel_rfl
theorem K_laws_FnExactTreeFlow : compile Try.prog ⟨mf, false⟩ Try.f6 = some ir_laws_FnExactTreeFlow := by kernel_rfl
theorem tblOk : ∀ p ∈ tbl, ∃ (fn : Func) (m : Md), Try.prog.funcs[p.1]? = some fn ∧ compile Try.prog m fn = some p.2 := by
  unfold tbl
  refine List.forall_mem_cons.2 ⟨⟨Try.f20, ⟨mf, false⟩, Try.func20, K_laws_szBranchS⟩, ?_⟩
  refine List.forall_mem_cons.2 ⟨⟨Try.f72, ⟨mf, false⟩, Try.func72, K_laws_toBranch⟩, ?_⟩
  refine List.forall_mem_cons.2 ⟨⟨Try.f22, ⟨mf, false⟩, Try.func22, K_laws_toBranchS⟩, ?_⟩
  refine List.forall_mem_cons.2 ⟨⟨Try.f71, ⟨mf, false⟩, Try.func71, K_spec_l1In⟩, ?_⟩
  refine List.forall_mem_cons.2 ⟨⟨Try.f70, ⟨mf, false⟩, Try.func70, K_spec_l11Good⟩, ?_⟩
  refine List.forall_mem_cons.2 ⟨⟨Try.f151, ⟨mf, false⟩, Try.func151, K_spec_l11Build_trans⟩, ?_⟩
  refine List.forall_mem_cons.2 ⟨⟨Try.f152, ⟨mf, false⟩, Try.func152, K_spec_l11First⟩, ?_⟩
  refine List.forall_mem_cons.2 ⟨⟨Try.f76, ⟨mf, false⟩, Try.func76, K_spec_l11Build_part⟩, ?_⟩
  refine List.forall_mem_cons.2 ⟨⟨Try.f111, ⟨mf, false⟩, Try.func111, K_spec_l1Places⟩, ?_⟩
  refine List.forall_mem_cons.2 ⟨⟨Try.f226, ⟨mf, false⟩, Try.func226, K_spec_l1Rising⟩, ?_⟩
  refine List.forall_mem_cons.2 ⟨⟨Try.f193, ⟨mf, false⟩, Try.func193, K_spec_GoodNet⟩, ?_⟩
  refine List.forall_mem_cons.2 ⟨⟨Try.f204, ⟨mf, false⟩, Try.func204, K_spec_l3Forward⟩, ?_⟩
  refine List.forall_mem_cons.2 ⟨⟨Try.f205, ⟨mf, false⟩, Try.func205, K_spec_l3Back⟩, ?_⟩
  refine List.forall_mem_cons.2 ⟨⟨Try.f206, ⟨mf, false⟩, Try.func206, K_spec_l3Both⟩, ?_⟩
  refine List.forall_mem_cons.2 ⟨⟨Try.f153, ⟨mf, false⟩, Try.func153, K_spec_OnWay⟩, ?_⟩
  refine List.forall_mem_cons.2 ⟨⟨Try.f147, ⟨mf, false⟩, Try.func147, K_spec_l1Has⟩, ?_⟩
  refine List.forall_mem_cons.2 ⟨⟨Try.f77, ⟨mf, false⟩, Try.func77, K_spec_GoodFlow⟩, ?_⟩
  refine List.forall_mem_cons.2 ⟨⟨Try.f27, ⟨mf, false⟩, Try.func27, K_spec_TreeFlow⟩, ?_⟩
  refine List.forall_mem_cons.2 ⟨⟨Try.f108, ⟨mf, false⟩, Try.func108, K_impl_within⟩, ?_⟩
  refine List.forall_mem_cons.2 ⟨⟨Try.f73, ⟨mf, false⟩, Try.func73, K_impl_isTree⟩, ?_⟩
  refine List.forall_mem_cons.2 ⟨⟨Try.f78, ⟨mf, false⟩, Try.func78, K_impl_parsed⟩, ?_⟩
  refine List.forall_mem_cons.2 ⟨⟨Try.f154, ⟨mf, true⟩, Try.func154, K_impl_treeBuild_trans⟩, ?_⟩
  refine List.forall_mem_cons.2 ⟨⟨Try.f155, ⟨mf, true⟩, Try.func155, K_impl_treeBuild_place⟩, ?_⟩
  refine List.forall_mem_cons.2 ⟨⟨Try.f79, ⟨mf, true⟩, Try.func79, K_impl_treeBuild_build⟩, ?_⟩
  refine List.forall_mem_cons.2 ⟨⟨Try.f237, ⟨mf, false⟩, Try.func237, K_impl_increasing⟩, ?_⟩
  refine List.forall_mem_cons.2 ⟨⟨Try.f163, ⟨mf, false⟩, Try.func163, K_impl_allWithin⟩, ?_⟩
  refine List.forall_mem_cons.2 ⟨⟨Try.f208, ⟨mf, false⟩, Try.func208, K_impl_arePlaces⟩, ?_⟩
  refine List.forall_mem_cons.2 ⟨⟨Try.f207, ⟨mf, false⟩, Try.func207, K_impl_GoodNet_1⟩, ?_⟩
  refine List.forall_mem_cons.2 ⟨⟨Try.f203, ⟨mf, false⟩, Try.func203, K_slices_IndexFunc_sl_impl_Trans_impl_Trans⟩, ?_⟩
  refine List.forall_mem_cons.2 ⟨⟨Try.f148, ⟨mf, false⟩, Try.func148, K_slices_ContainsFunc_sl_impl_Trans_impl_Trans⟩, ?_⟩
  refine List.forall_mem_cons.2 ⟨⟨Try.f156, ⟨mf, false⟩, Try.func156, K_impl_GoodNet⟩, ?_⟩
  refine List.forall_mem_cons.2 ⟨⟨Try.f195, ⟨mf, false⟩, Try.func195, K_slices_Index_sl_int_int⟩, ?_⟩
  refine List.forall_mem_cons.2 ⟨⟨Try.f125, ⟨mf, false⟩, Try.func125, K_slices_Contains_sl_int_int⟩, ?_⟩
  refine List.forall_mem_cons.2 ⟨⟨Try.f238, ⟨mf, false⟩, Try.func238, K_impl_reachedFrom_1⟩, ?_⟩
  refine List.forall_mem_cons.2 ⟨⟨Try.f240, ⟨mf, false⟩, Try.func240, K_slices_IndexFunc_sl_int_int⟩, ?_⟩
  refine List.forall_mem_cons.2 ⟨⟨Try.f222, ⟨mf, false⟩, Try.func222, K_slices_ContainsFunc_sl_int_int⟩, ?_⟩
  refine List.forall_mem_cons.2 ⟨⟨Try.f209, ⟨mf, false⟩, Try.func209, K_impl_reachedFrom⟩, ?_⟩
  refine List.forall_mem_cons.2 ⟨⟨Try.f210, ⟨mf, false⟩, Try.func210, K_impl_bothOf⟩, ?_⟩
  refine List.forall_mem_cons.2 ⟨⟨Try.f157, ⟨mf, false⟩, Try.func157, K_impl_onWay⟩, ?_⟩
  refine List.forall_mem_cons.2 ⟨⟨Try.f80, ⟨mf, false⟩, Try.func80, K_impl_GoodFlow⟩, ?_⟩
  refine List.forall_mem_cons.2 ⟨⟨Try.f28, ⟨mf, true⟩, Try.func28, K_impl_TreeFlow⟩, ?_⟩
  refine List.forall_mem_cons.2 ⟨⟨Try.f29, ⟨mf, false⟩, Try.func29, K_laws_eqIntS⟩, ?_⟩
  refine List.forall_mem_cons.2 ⟨⟨Try.f198, ⟨mf, false⟩, Try.func198, K_laws_eqTrans⟩, ?_⟩
  refine List.forall_mem_cons.2 ⟨⟨Try.f127, ⟨mf, false⟩, Try.func127, K_laws_eqTransS⟩, ?_⟩
  refine List.forall_mem_cons.2 ⟨⟨Try.f59, ⟨mf, false⟩, Try.func59, K_laws_eqNet⟩, ?_⟩
  refine List.forall_mem_cons.2 ⟨⟨Try.f15, ⟨mf, false⟩, Try.func15, K_laws_eqFlow⟩, ?_⟩
  refine List.forall_mem_cons.2 ⟨⟨Try.f75, ⟨mf, false⟩, Try.func75, K_laws_eqBranch⟩, ?_⟩
  refine List.forall_mem_cons.2 ⟨⟨Try.f24, ⟨mf, false⟩, Try.func24, K_laws_eqBranchS⟩, ?_⟩
  refine List.forall_mem_cons.2 ⟨⟨Try.f25, ⟨mf, true⟩, Try.func25, K_laws_markBranchS⟩, ?_⟩
  refine List.forall_mem_cons.2 ⟨⟨Try.f30, ⟨mf, true⟩, Try.func30, K_laws_markIntS⟩, ?_⟩
  refine List.forall_mem_cons.2 ⟨⟨Try.f128, ⟨mf, true⟩, Try.func128, K_laws_markTransS⟩, ?_⟩
  refine List.forall_mem_cons.2 ⟨⟨Try.f60, ⟨mf, true⟩, Try.func60, K_laws_markNet⟩, ?_⟩
  refine List.forall_mem_cons.2 ⟨⟨Try.f16, ⟨mf, true⟩, Try.func16, K_laws_markFlow⟩, ?_⟩
  refine List.forall_mem_cons.2 ⟨⟨Try.f31, ⟨mf, false⟩, Try.func31, K_laws_heldIntS⟩, ?_⟩
  refine List.forall_mem_cons.2 ⟨⟨Try.f145, ⟨mf, false⟩, Try.func145, K_laws_heldTransS⟩, ?_⟩
  refine List.forall_mem_cons.2 ⟨⟨Try.f67, ⟨mf, false⟩, Try.func67, K_laws_heldNet⟩, ?_⟩
  refine List.forall_mem_cons.2 ⟨⟨Try.f17, ⟨mf, false⟩, Try.func17, K_laws_heldFlow⟩, ?_⟩
  refine List.forall_mem_cons.2 ⟨⟨Try.f6, ⟨mf, false⟩, Try.func6, K_laws_FnExactTreeFlow⟩, ?_⟩
  exact fun _ h => (by cases h)
theorem hF (f : FuncId) (i : IFun) (h : F f = some i) : ∃ (fn : Func) (m : Md), Try.prog.funcs[f]? = some fn ∧ compile Try.prog m fn = some i := by
  unfold F at h
  simp only [Option.map_eq_some_iff] at h
  obtain ⟨p, hp, rfl⟩ := h
  have h1 := List.mem_of_find?_eq_some hp
  have h2 := List.find?_some hp
  have h3 : p.1 = f := by simpa using h2
  subst h3
  exact tblOk p h1
theorem hE (f : FuncId) (e : List PV → Option PV) (h : ext f = some e) : ExtOk Try.prog f e := by
  simp [ext, exts] at h
end Go.Proofs.Ytkkifebmicbbaaa.Pi
