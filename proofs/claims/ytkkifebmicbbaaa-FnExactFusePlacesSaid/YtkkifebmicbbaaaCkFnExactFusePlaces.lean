/- The forms are those of the program. No condition. -/
import Derived.Test.YtkkifebmicbbaaaChecked
import Derived.Test.YtkkifebmicbbaaaIrFnExactFusePlaces
import Derived.Test.YtkkifebmicbbaaaPiTop
import Derived.Test.YtkkifebmicbbaaaPiDz
import Derived.KernelRfl
namespace Go.Proofs.Ytkkifebmicbbaaa.Pi
open Go
set_option linter.all false
def mf (f : FuncId) : Bool := [135, 202, 30, 128, 60, 16].contains f
theorem K_laws_szIntS : compile Try.prog ⟨mf, false⟩ Try.f225 = some ir_laws_szIntS := by kernel_rfl
theorem K_laws_szTrans : compile Try.prog ⟨mf, false⟩ Try.f192 = some ir_laws_szTrans := by kernel_rfl
theorem K_laws_szTransS : compile Try.prog ⟨mf, false⟩ Try.f118 = some ir_laws_szTransS := by kernel_rfl
theorem K_laws_szNet : compile Try.prog ⟨mf, false⟩ Try.f53 = some ir_laws_szNet := by kernel_rfl
theorem K_laws_szFlow : compile Try.prog ⟨mf, false⟩ Try.f11 = some ir_laws_szFlow := by kernel_rfl
theorem K_laws_toIntS : compile Try.prog ⟨mf, false⟩ Try.f56 = some ir_laws_toIntS := by kernel_rfl
theorem K_laws_toTrans : compile Try.prog ⟨mf, false⟩ Try.f194 = some ir_laws_toTrans := by kernel_rfl
theorem K_laws_toTransS : compile Try.prog ⟨mf, true⟩ Try.f123 = some ir_laws_toTransS := by kernel_rfl
theorem K_laws_toNet : compile Try.prog ⟨mf, true⟩ Try.f55 = some ir_laws_toNet := by kernel_rfl
theorem K_laws_toFlow : compile Try.prog ⟨mf, true⟩ Try.f13 = some ir_laws_toFlow := by kernel_rfl
theorem K_spec_l1In : compile Try.prog ⟨mf, false⟩ Try.f71 = some ir_spec_l1In := by kernel_rfl
theorem K_spec_l1Places : compile Try.prog ⟨mf, false⟩ Try.f111 = some ir_spec_l1Places := by kernel_rfl
theorem K_spec_l1Rising : compile Try.prog ⟨mf, false⟩ Try.f226 = some ir_spec_l1Rising := by kernel_rfl
theorem K_spec_GoodNet : compile Try.prog ⟨mf, false⟩ Try.f193 = some ir_spec_GoodNet := by kernel_rfl
theorem K_spec_l3Forward : compile Try.prog ⟨mf, false⟩ Try.f204 = some ir_spec_l3Forward := by kernel_rfl
theorem K_spec_l3Back : compile Try.prog ⟨mf, false⟩ Try.f205 = some ir_spec_l3Back := by kernel_rfl
theorem K_spec_l3Both : compile Try.prog ⟨mf, false⟩ Try.f206 = some ir_spec_l3Both := by kernel_rfl
theorem K_spec_OnWay : compile Try.prog ⟨mf, false⟩ Try.f153 = some ir_spec_OnWay := by kernel_rfl
theorem K_spec_l1Has : compile Try.prog ⟨mf, false⟩ Try.f147 = some ir_spec_l1Has := by kernel_rfl
theorem K_spec_GoodFlow : compile Try.prog ⟨mf, false⟩ Try.f77 = some ir_spec_GoodFlow := by kernel_rfl
theorem K_spec_l2Resets : compile Try.prog ⟨mf, false⟩ Try.f129 = some ir_spec_l2Resets := by kernel_rfl
theorem K_spec_l10Asked : compile Try.prog ⟨mf, false⟩ Try.f63 = some ir_spec_l10Asked := by kernel_rfl
theorem K_spec_l2Takers : compile Try.prog ⟨mf, false⟩ Try.f131 = some ir_spec_l2Takers := by kernel_rfl
theorem K_spec_l10Apart : compile Try.prog ⟨mf, false⟩ Try.f146 = some ir_spec_l10Apart := by kernel_rfl
theorem K_spec_l1Own : compile Try.prog ⟨mf, false⟩ Try.f122 = some ir_spec_l1Own := by kernel_rfl
theorem K_spec_l3Own : compile Try.prog ⟨mf, false⟩ Try.f81 = some ir_spec_l3Own := by kernel_rfl
theorem K_spec_l8Without : compile Try.prog ⟨mf, false⟩ Try.f134 = some ir_spec_l8Without := by kernel_rfl
theorem K_spec_l1Put : compile Try.prog ⟨mf, false⟩ Try.f135 = some ir_spec_l1Put := by kernel_rfl
theorem K_spec_l10Leave : compile Try.prog ⟨mf, false⟩ Try.f136 = some ir_spec_l10Leave := by kernel_rfl
theorem K_spec_l10FusePlaces : compile Try.prog ⟨mf, false⟩ Try.f68 = some ir_spec_l10FusePlaces := by kernel_rfl
theorem K_spec_FusePlaces : compile Try.prog ⟨mf, false⟩ Try.f18 = some ir_spec_FusePlaces := by kernel_rfl
theorem K_impl_within : compile Try.prog ⟨mf, false⟩ Try.f108 = some ir_impl_within := by kernel_rfl
theorem K_impl_increasing : compile Try.prog ⟨mf, false⟩ Try.f237 = some ir_impl_increasing := by kernel_rfl
theorem K_impl_allWithin : compile Try.prog ⟨mf, false⟩ Try.f163 = some ir_impl_allWithin := by kernel_rfl
theorem K_impl_arePlaces : compile Try.prog ⟨mf, false⟩ Try.f208 = some ir_impl_arePlaces := by kernel_rfl
theorem K_impl_GoodNet_1 : compile Try.prog ⟨mf, false⟩ Try.f207 = some ir_impl_GoodNet_1 := by kernel_rfl
theorem K_slices_IndexFunc_sl_impl_Trans_impl_Trans : compile Try.prog ⟨mf, false⟩ Try.f203 = some ir_slices_IndexFunc_sl_impl_Trans_impl_Trans := by kernel_rfl
theorem K_slices_ContainsFunc_sl_impl_Trans_impl_Trans : compile Try.prog ⟨mf, false⟩ Try.f148 = some ir_slices_ContainsFunc_sl_impl_Trans_impl_Trans := by kernel_rfl
theorem K_impl_GoodNet : compile Try.prog ⟨mf, false⟩ Try.f156 = some ir_impl_GoodNet := by kernel_rfl
theorem K_slices_Index_sl_int_int : compile Try.prog ⟨mf, false⟩ Try.f195 = some ir_slices_Index_sl_int_int := by kernel_rfl
theorem K_slices_Contains_sl_int_int : compile Try.prog ⟨mf, false⟩ Try.f125 = some ir_slices_Contains_sl_int_int := by kernel_rfl
theorem K_impl_reachedFrom_1 : compile Try.prog ⟨mf, false⟩ Try.f238 = some ir_impl_reachedFrom_1 := by kernel_rfl
theorem K_slices_IndexFunc_sl_int_int : compile Try.prog ⟨mf, false⟩ Try.f240 = some ir_slices_IndexFunc_sl_int_int := by kernel_rfl
theorem K_slices_ContainsFunc_sl_int_int : compile Try.prog ⟨mf, false⟩ Try.f222 = some ir_slices_ContainsFunc_sl_int_int := by kernel_rfl
theorem K_impl_reachedFrom : compile Try.prog ⟨mf, false⟩ Try.f209 = some ir_impl_reachedFrom := by kernel_rfl
theorem K_impl_bothOf : compile Try.prog ⟨mf, false⟩ Try.f210 = some ir_impl_bothOf := by kernel_rfl
theorem K_impl_onWay : compile Try.prog ⟨mf, false⟩ Try.f157 = some ir_impl_onWay := by kernel_rfl
theorem K_impl_GoodFlow : compile Try.prog ⟨mf, false⟩ Try.f80 = some ir_impl_GoodFlow := by kernel_rfl
theorem K_impl_hasResets_1 : compile Try.prog ⟨mf, false⟩ Try.f199 = some ir_impl_hasResets_1 := by kernel_rfl
theorem K_impl_hasResets : compile Try.prog ⟨mf, false⟩ Try.f137 = some ir_impl_hasResets := by kernel_rfl
theorem K_impl_isReducible : compile Try.prog ⟨mf, false⟩ Try.f65 = some ir_impl_isReducible := by kernel_rfl
theorem K_impl_fusePlaces_1 : compile Try.prog ⟨mf, true⟩ Try.f149 = some ir_impl_fusePlaces_1 := by kernel_rfl
theorem K_impl_withTrans : compile Try.prog ⟨mf, false⟩ Try.f138 = some ir_impl_withTrans := by kernel_rfl
theorem K_impl_cloneNet : compile Try.prog ⟨mf, false⟩ Try.f83 = some ir_impl_cloneNet := by kernel_rfl
theorem K_slices_Delete_sl_impl_Trans_impl_Trans : compile Try.prog ⟨mf, false⟩ Try.f202 = some ir_slices_Delete_sl_impl_Trans_impl_Trans := by kernel_rfl
theorem K_impl_withoutTrans : compile Try.prog ⟨mf, false⟩ Try.f144 = some ir_impl_withoutTrans := by kernel_rfl
theorem K_impl_maskOf : compile Try.prog ⟨mf, false⟩ Try.f142 = some ir_impl_maskOf := by kernel_rfl
theorem K_impl_setOf : compile Try.prog ⟨mf, false⟩ Try.f141 = some ir_impl_setOf := by kernel_rfl
theorem K_impl_withoutPlace_1 : compile Try.prog ⟨mf, true⟩ Try.f200 = some ir_impl_withoutPlace_1 := by kernel_rfl
theorem K_impl_withoutPlace_2 : compile Try.prog ⟨mf, true⟩ Try.f201 = some ir_impl_withoutPlace_2 := by kernel_rfl
theorem K_impl_withoutPlace : compile Try.prog ⟨mf, true⟩ Try.f143 = some ir_impl_withoutPlace := by kernel_rfl
theorem K_impl_fusePlaces : compile Try.prog ⟨mf, true⟩ Try.f69 = some ir_impl_fusePlaces := by kernel_rfl
theorem K_impl_FusePlaces : compile Try.prog ⟨mf, true⟩ Try.f19 = some ir_impl_FusePlaces := by kernel_rfl
theorem K_laws_eqIntS : compile Try.prog ⟨mf, false⟩ Try.f29 = some ir_laws_eqIntS := by kernel_rfl
theorem K_laws_eqTrans : compile Try.prog ⟨mf, false⟩ Try.f198 = some ir_laws_eqTrans := by kernel_rfl
theorem K_laws_eqTransS : compile Try.prog ⟨mf, false⟩ Try.f127 = some ir_laws_eqTransS := by kernel_rfl
theorem K_laws_eqNet : compile Try.prog ⟨mf, false⟩ Try.f59 = some ir_laws_eqNet := by kernel_rfl
theorem K_laws_eqFlow : compile Try.prog ⟨mf, false⟩ Try.f15 = some ir_laws_eqFlow := by kernel_rfl
theorem K_laws_markIntS : compile Try.prog ⟨mf, true⟩ Try.f30 = some ir_laws_markIntS := by kernel_rfl
theorem K_laws_markTransS : compile Try.prog ⟨mf, true⟩ Try.f128 = some ir_laws_markTransS := by kernel_rfl
theorem K_laws_markNet : compile Try.prog ⟨mf, true⟩ Try.f60 = some ir_laws_markNet := by kernel_rfl
theorem K_laws_markFlow : compile Try.prog ⟨mf, true⟩ Try.f16 = some ir_laws_markFlow := by kernel_rfl
theorem K_laws_heldIntS : compile Try.prog ⟨mf, false⟩ Try.f31 = some ir_laws_heldIntS := by kernel_rfl
theorem K_laws_heldTransS : compile Try.prog ⟨mf, false⟩ Try.f145 = some ir_laws_heldTransS := by kernel_rfl
theorem K_laws_heldNet : compile Try.prog ⟨mf, false⟩ Try.f67 = some ir_laws_heldNet := by kernel_rfl
theorem K_laws_heldFlow : compile Try.prog ⟨mf, false⟩ Try.f17 = some ir_laws_heldFlow := by kernel_rfl
theorem K_laws_FnExactFusePlaces : compile Try.prog ⟨mf, false⟩ Try.f4 = some ir_laws_FnExactFusePlaces := by kernel_rfl
theorem tblOk : ∀ p ∈ tbl, ∃ (fn : Func) (m : Md), Try.prog.funcs[p.1]? = some fn ∧ compile Try.prog m fn = some p.2 := by
  unfold tbl
  refine List.forall_mem_cons.2 ⟨⟨Try.f225, ⟨mf, false⟩, Try.func225, K_laws_szIntS⟩, ?_⟩
  refine List.forall_mem_cons.2 ⟨⟨Try.f192, ⟨mf, false⟩, Try.func192, K_laws_szTrans⟩, ?_⟩
  refine List.forall_mem_cons.2 ⟨⟨Try.f118, ⟨mf, false⟩, Try.func118, K_laws_szTransS⟩, ?_⟩
  refine List.forall_mem_cons.2 ⟨⟨Try.f53, ⟨mf, false⟩, Try.func53, K_laws_szNet⟩, ?_⟩
  refine List.forall_mem_cons.2 ⟨⟨Try.f11, ⟨mf, false⟩, Try.func11, K_laws_szFlow⟩, ?_⟩
  refine List.forall_mem_cons.2 ⟨⟨Try.f56, ⟨mf, false⟩, Try.func56, K_laws_toIntS⟩, ?_⟩
  refine List.forall_mem_cons.2 ⟨⟨Try.f194, ⟨mf, false⟩, Try.func194, K_laws_toTrans⟩, ?_⟩
  refine List.forall_mem_cons.2 ⟨⟨Try.f123, ⟨mf, true⟩, Try.func123, K_laws_toTransS⟩, ?_⟩
  refine List.forall_mem_cons.2 ⟨⟨Try.f55, ⟨mf, true⟩, Try.func55, K_laws_toNet⟩, ?_⟩
  refine List.forall_mem_cons.2 ⟨⟨Try.f13, ⟨mf, true⟩, Try.func13, K_laws_toFlow⟩, ?_⟩
  refine List.forall_mem_cons.2 ⟨⟨Try.f71, ⟨mf, false⟩, Try.func71, K_spec_l1In⟩, ?_⟩
  refine List.forall_mem_cons.2 ⟨⟨Try.f111, ⟨mf, false⟩, Try.func111, K_spec_l1Places⟩, ?_⟩
  refine List.forall_mem_cons.2 ⟨⟨Try.f226, ⟨mf, false⟩, Try.func226, K_spec_l1Rising⟩, ?_⟩
  refine List.forall_mem_cons.2 ⟨⟨Try.f193, ⟨mf, false⟩, Try.func193, K_spec_GoodNet⟩, ?_⟩
  refine List.forall_mem_cons.2 ⟨⟨Try.f204, ⟨mf, false⟩, Try.func204, K_spec_l3Forward⟩, ?_⟩
  refine List.forall_mem_cons.2 ⟨⟨Try.f205, ⟨mf, false⟩, Try.func205, K_spec_l3Back⟩, ?_⟩
  refine List.forall_mem_cons.2 ⟨⟨Try.f206, ⟨mf, false⟩, Try.func206, K_spec_l3Both⟩, ?_⟩
  refine List.forall_mem_cons.2 ⟨⟨Try.f153, ⟨mf, false⟩, Try.func153, K_spec_OnWay⟩, ?_⟩
  refine List.forall_mem_cons.2 ⟨⟨Try.f147, ⟨mf, false⟩, Try.func147, K_spec_l1Has⟩, ?_⟩
  refine List.forall_mem_cons.2 ⟨⟨Try.f77, ⟨mf, false⟩, Try.func77, K_spec_GoodFlow⟩, ?_⟩
  refine List.forall_mem_cons.2 ⟨⟨Try.f129, ⟨mf, false⟩, Try.func129, K_spec_l2Resets⟩, ?_⟩
  refine List.forall_mem_cons.2 ⟨⟨Try.f63, ⟨mf, false⟩, Try.func63, K_spec_l10Asked⟩, ?_⟩
  refine List.forall_mem_cons.2 ⟨⟨Try.f131, ⟨mf, false⟩, Try.func131, K_spec_l2Takers⟩, ?_⟩
  refine List.forall_mem_cons.2 ⟨⟨Try.f146, ⟨mf, false⟩, Try.func146, K_spec_l10Apart⟩, ?_⟩
  refine List.forall_mem_cons.2 ⟨⟨Try.f122, ⟨mf, false⟩, Try.func122, K_spec_l1Own⟩, ?_⟩
  refine List.forall_mem_cons.2 ⟨⟨Try.f81, ⟨mf, false⟩, Try.func81, K_spec_l3Own⟩, ?_⟩
  refine List.forall_mem_cons.2 ⟨⟨Try.f134, ⟨mf, false⟩, Try.func134, K_spec_l8Without⟩, ?_⟩
  refine List.forall_mem_cons.2 ⟨⟨Try.f135, ⟨mf, false⟩, Try.func135, K_spec_l1Put⟩, ?_⟩
  refine List.forall_mem_cons.2 ⟨⟨Try.f136, ⟨mf, false⟩, Try.func136, K_spec_l10Leave⟩, ?_⟩
  refine List.forall_mem_cons.2 ⟨⟨Try.f68, ⟨mf, false⟩, Try.func68, K_spec_l10FusePlaces⟩, ?_⟩
  refine List.forall_mem_cons.2 ⟨⟨Try.f18, ⟨mf, false⟩, Try.func18, K_spec_FusePlaces⟩, ?_⟩
  refine List.forall_mem_cons.2 ⟨⟨Try.f108, ⟨mf, false⟩, Try.func108, K_impl_within⟩, ?_⟩
  refine List.forall_mem_cons.2 ⟨⟨Try.f237, ⟨mf, false⟩, Try.func237, K_impl_increasing⟩, ?_⟩
  refine List.forall_mem_cons.2 ⟨⟨Try.f163, ⟨mf, false⟩, Try.func163, K_impl_allWithin⟩, ?_⟩
  refine List.forall_mem_cons.2 ⟨⟨Try.f208, ⟨mf, false⟩, Try.func208, K_impl_arePlaces⟩, ?_⟩
  refine List.forall_mem_cons.2 ⟨⟨Try.f207, ⟨mf, false⟩, Try.func207, K_impl_GoodNet_1⟩, ?_⟩
  refine List.forall_mem_cons.2 ⟨⟨Try.f203, ⟨mf, false⟩, Try.func203, K_slices_IndexFunc_sl_impl_Trans_impl_Trans⟩, ?_⟩
  refine List.forall_mem_cons.2 ⟨⟨Try.f148, ⟨mf, false⟩, Try.func148, K_slices_ContainsFunc_sl_impl_Trans_impl_Trans⟩, ?_⟩
  refine List.forall_mem_cons.2 ⟨⟨Try.f156, ⟨mf, false⟩, Try.func156, K_impl_GoodNet⟩, ?_⟩
  refine List.forall_mem_cons.2 ⟨⟨Try.f195, ⟨mf, false⟩, Try.func195, K_slices_Index_sl_int_int⟩, ?_⟩
  refine List.forall_mem_cons.2 ⟨⟨Try.f125, ⟨mf, false⟩, Try.func125, K_slices_Contains_sl_int_int⟩, ?_⟩
  refine List.forall_mem_cons.2 ⟨⟨Try.f238, ⟨mf, false⟩, Try.func238, K_impl_reachedFrom_1⟩, ?_⟩
  refine List.forall_mem_cons.2 ⟨⟨Try.f240, ⟨mf, false⟩, Try.func240, K_slices_IndexFunc_sl_int_int⟩, ?_⟩
  refine List.forall_mem_cons.2 ⟨⟨Try.f222, ⟨mf, false⟩, Try.func222, K_slices_ContainsFunc_sl_int_int⟩, ?_⟩
  refine List.forall_mem_cons.2 ⟨⟨Try.f209, ⟨mf, false⟩, Try.func209, K_impl_reachedFrom⟩, ?_⟩
  refine List.forall_mem_cons.2 ⟨⟨Try.f210, ⟨mf, false⟩, Try.func210, K_impl_bothOf⟩, ?_⟩
  refine List.forall_mem_cons.2 ⟨⟨Try.f157, ⟨mf, false⟩, Try.func157, K_impl_onWay⟩, ?_⟩
  refine List.forall_mem_cons.2 ⟨⟨Try.f80, ⟨mf, false⟩, Try.func80, K_impl_GoodFlow⟩, ?_⟩
  refine List.forall_mem_cons.2 ⟨⟨Try.f199, ⟨mf, false⟩, Try.func199, K_impl_hasResets_1⟩, ?_⟩
  refine List.forall_mem_cons.2 ⟨⟨Try.f137, ⟨mf, false⟩, Try.func137, K_impl_hasResets⟩, ?_⟩
  refine List.forall_mem_cons.2 ⟨⟨Try.f65, ⟨mf, false⟩, Try.func65, K_impl_isReducible⟩, ?_⟩
  refine List.forall_mem_cons.2 ⟨⟨Try.f149, ⟨mf, true⟩, Try.func149, K_impl_fusePlaces_1⟩, ?_⟩
  refine List.forall_mem_cons.2 ⟨⟨Try.f138, ⟨mf, false⟩, Try.func138, K_impl_withTrans⟩, ?_⟩
  refine List.forall_mem_cons.2 ⟨⟨Try.f83, ⟨mf, false⟩, Try.func83, K_impl_cloneNet⟩, ?_⟩
  refine List.forall_mem_cons.2 ⟨⟨Try.f202, ⟨mf, false⟩, Try.func202, K_slices_Delete_sl_impl_Trans_impl_Trans⟩, ?_⟩
  refine List.forall_mem_cons.2 ⟨⟨Try.f144, ⟨mf, false⟩, Try.func144, K_impl_withoutTrans⟩, ?_⟩
  refine List.forall_mem_cons.2 ⟨⟨Try.f142, ⟨mf, false⟩, Try.func142, K_impl_maskOf⟩, ?_⟩
  refine List.forall_mem_cons.2 ⟨⟨Try.f141, ⟨mf, false⟩, Try.func141, K_impl_setOf⟩, ?_⟩
  refine List.forall_mem_cons.2 ⟨⟨Try.f200, ⟨mf, true⟩, Try.func200, K_impl_withoutPlace_1⟩, ?_⟩
  refine List.forall_mem_cons.2 ⟨⟨Try.f201, ⟨mf, true⟩, Try.func201, K_impl_withoutPlace_2⟩, ?_⟩
  refine List.forall_mem_cons.2 ⟨⟨Try.f143, ⟨mf, true⟩, Try.func143, K_impl_withoutPlace⟩, ?_⟩
  refine List.forall_mem_cons.2 ⟨⟨Try.f69, ⟨mf, true⟩, Try.func69, K_impl_fusePlaces⟩, ?_⟩
  refine List.forall_mem_cons.2 ⟨⟨Try.f19, ⟨mf, true⟩, Try.func19, K_impl_FusePlaces⟩, ?_⟩
  refine List.forall_mem_cons.2 ⟨⟨Try.f29, ⟨mf, false⟩, Try.func29, K_laws_eqIntS⟩, ?_⟩
  refine List.forall_mem_cons.2 ⟨⟨Try.f198, ⟨mf, false⟩, Try.func198, K_laws_eqTrans⟩, ?_⟩
  refine List.forall_mem_cons.2 ⟨⟨Try.f127, ⟨mf, false⟩, Try.func127, K_laws_eqTransS⟩, ?_⟩
  refine List.forall_mem_cons.2 ⟨⟨Try.f59, ⟨mf, false⟩, Try.func59, K_laws_eqNet⟩, ?_⟩
  refine List.forall_mem_cons.2 ⟨⟨Try.f15, ⟨mf, false⟩, Try.func15, K_laws_eqFlow⟩, ?_⟩
  refine List.forall_mem_cons.2 ⟨⟨Try.f30, ⟨mf, true⟩, Try.func30, K_laws_markIntS⟩, ?_⟩
  refine List.forall_mem_cons.2 ⟨⟨Try.f128, ⟨mf, true⟩, Try.func128, K_laws_markTransS⟩, ?_⟩
  refine List.forall_mem_cons.2 ⟨⟨Try.f60, ⟨mf, true⟩, Try.func60, K_laws_markNet⟩, ?_⟩
  refine List.forall_mem_cons.2 ⟨⟨Try.f16, ⟨mf, true⟩, Try.func16, K_laws_markFlow⟩, ?_⟩
  refine List.forall_mem_cons.2 ⟨⟨Try.f31, ⟨mf, false⟩, Try.func31, K_laws_heldIntS⟩, ?_⟩
  refine List.forall_mem_cons.2 ⟨⟨Try.f145, ⟨mf, false⟩, Try.func145, K_laws_heldTransS⟩, ?_⟩
  refine List.forall_mem_cons.2 ⟨⟨Try.f67, ⟨mf, false⟩, Try.func67, K_laws_heldNet⟩, ?_⟩
  refine List.forall_mem_cons.2 ⟨⟨Try.f17, ⟨mf, false⟩, Try.func17, K_laws_heldFlow⟩, ?_⟩
  refine List.forall_mem_cons.2 ⟨⟨Try.f4, ⟨mf, false⟩, Try.func4, K_laws_FnExactFusePlaces⟩, ?_⟩
  exact fun _ h => (by cases h)
theorem hF (f : FuncId) (i : IFun) (h : F f = some i) : ∃ (fn : Func) (m : Md), Try.prog.funcs[f]? = some fn ∧ compile Try.prog m fn = some i := by
  unfold F at h
  simp only [Option.map_eq_some_iff] at h
  obtain ⟨p, hp, rfl⟩ := h
  have h1 := List.mem_of_find?_eq_some hp
  have h2 := List.find?_some hp
  have h3 : p.1 = f := by simpa using h2
  subst h3
  exact tblOk p h1
theorem extsOk : ∀ p ∈ exts, ExtOk Try.prog p.1 p.2 := by
  unfold exts
  refine List.forall_mem_cons.2 ⟨extClone_ok (mf := ⟨mf, false⟩) (Checked.mixed Try.checked) Try.func102 (show compile Try.prog ⟨mf, false⟩ Try.f102 = some (irClone t_int true 1) by kernel_rfl), ?_⟩
  exact fun _ h => (by cases h)
theorem hE (f : FuncId) (e : List PV → Option PV) (h : ext f = some e) : ExtOk Try.prog f e := by
  unfold ext at h
  simp only [Option.map_eq_some_iff] at h
  obtain ⟨p, hp, rfl⟩ := h
  have h1 := List.mem_of_find?_eq_some hp
  have h2 := List.find?_some hp
  have h3 : p.1 = f := by simpa using h2
  subst h3
  exact extsOk p h1
end Go.Proofs.Ytkkifebmicbbaaa.Pi
