/- The forms are those of the program. No condition. -/
import Derived.Test.YtblolnhajgmbdaaChecked
import Derived.Test.YtblolnhajgmbdaaIrFnExactPlayCase
import Derived.Test.YtblolnhajgmbdaaPiTop
import Derived.Test.YtblolnhajgmbdaaPiDz
import Derived.KernelRfl
namespace Go.Proofs.Ytblolnhajgmbdaa.Pi
open Go
set_option linter.all false
def mf (f : FuncId) : Bool := [124, 129, 27, 82, 26, 41, 36, 66].contains f
theorem K_laws_szIntS : compile Try.prog ⟨mf, false⟩ Try.f83 = some ir_laws_szIntS := by kernel_rfl
theorem K_laws_szTask : compile Try.prog ⟨mf, false⟩ Try.f103 = some ir_laws_szTask := by kernel_rfl
theorem K_laws_szTaskS : compile Try.prog ⟨mf, false⟩ Try.f68 = some ir_laws_szTaskS := by kernel_rfl
theorem K_laws_szSpec : compile Try.prog ⟨mf, false⟩ Try.f15 = some ir_laws_szSpec := by kernel_rfl
theorem K_laws_szMoveS : compile Try.prog ⟨mf, false⟩ Try.f61 = some ir_laws_szMoveS := by kernel_rfl
theorem K_laws_toIntS : compile Try.prog ⟨mf, false⟩ Try.f85 = some ir_laws_toIntS := by kernel_rfl
theorem K_laws_toTask : compile Try.prog ⟨mf, false⟩ Try.f109 = some ir_laws_toTask := by kernel_rfl
theorem K_laws_toTaskS : compile Try.prog ⟨mf, true⟩ Try.f73 = some ir_laws_toTaskS := by kernel_rfl
theorem K_laws_toSpec : compile Try.prog ⟨mf, true⟩ Try.f17 = some ir_laws_toSpec := by kernel_rfl
theorem K_laws_toMove : compile Try.prog ⟨mf, false⟩ Try.f21 = some ir_laws_toMove := by kernel_rfl
theorem K_laws_toMoveS : compile Try.prog ⟨mf, false⟩ Try.f63 = some ir_laws_toMoveS := by kernel_rfl
theorem K_spec_l1In : compile Try.prog ⟨mf, false⟩ Try.f69 = some ir_spec_l1In := by kernel_rfl
theorem K_spec_l1Has : compile Try.prog ⟨mf, false⟩ Try.f104 = some ir_spec_l1Has := by kernel_rfl
theorem K_spec_l1Rising : compile Try.prog ⟨mf, false⟩ Try.f105 = some ir_spec_l1Rising := by kernel_rfl
theorem K_spec_l13Task : compile Try.prog ⟨mf, false⟩ Try.f70 = some ir_spec_l13Task := by kernel_rfl
theorem K_spec_l1Own : compile Try.prog ⟨mf, false⟩ Try.f106 = some ir_spec_l1Own := by kernel_rfl
theorem K_spec_l1Set : compile Try.prog ⟨mf, false⟩ Try.f131 = some ir_spec_l1Set := by kernel_rfl
theorem K_spec_l13Some : compile Try.prog ⟨mf, false⟩ Try.f107 = some ir_spec_l13Some := by kernel_rfl
theorem K_spec_l13Region : compile Try.prog ⟨mf, false⟩ Try.f79 = some ir_spec_l13Region := by kernel_rfl
theorem K_spec_l13Lay : compile Try.prog ⟨mf, false⟩ Try.f71 = some ir_spec_l13Lay := by kernel_rfl
theorem K_spec_l1Places : compile Try.prog ⟨mf, false⟩ Try.f142 = some ir_spec_l1Places := by kernel_rfl
theorem K_spec_GoodNet : compile Try.prog ⟨mf, false⟩ Try.f132 = some ir_spec_GoodNet := by kernel_rfl
theorem K_spec_l3Forward : compile Try.prog ⟨mf, false⟩ Try.f133 = some ir_spec_l3Forward := by kernel_rfl
theorem K_spec_l3Back : compile Try.prog ⟨mf, false⟩ Try.f134 = some ir_spec_l3Back := by kernel_rfl
theorem K_spec_l3Both : compile Try.prog ⟨mf, false⟩ Try.f135 = some ir_spec_l3Both := by kernel_rfl
theorem K_spec_OnWay : compile Try.prog ⟨mf, false⟩ Try.f108 = some ir_spec_OnWay := by kernel_rfl
theorem K_spec_GoodFlow : compile Try.prog ⟨mf, false⟩ Try.f72 = some ir_spec_GoodFlow := by kernel_rfl
theorem K_spec_GoodSpec : compile Try.prog ⟨mf, false⟩ Try.f16 = some ir_spec_GoodSpec := by kernel_rfl
theorem K_spec_l3One : compile Try.prog ⟨mf, false⟩ Try.f87 = some ir_spec_l3One := by kernel_rfl
theorem K_spec_NewCase : compile Try.prog ⟨mf, false⟩ Try.f34 = some ir_spec_NewCase := by kernel_rfl
theorem K_spec_l13No : compile Try.prog ⟨mf, false⟩ Try.f76 = some ir_spec_l13No := by kernel_rfl
theorem K_spec_l1All : compile Try.prog ⟨mf, false⟩ Try.f143 = some ir_spec_l1All := by kernel_rfl
theorem K_spec_GoodMark : compile Try.prog ⟨mf, false⟩ Try.f114 = some ir_spec_GoodMark := by kernel_rfl
theorem K_spec_l2Marked : compile Try.prog ⟨mf, false⟩ Try.f150 = some ir_spec_l2Marked := by kernel_rfl
theorem K_spec_l2Can : compile Try.prog ⟨mf, false⟩ Try.f146 = some ir_spec_l2Can := by kernel_rfl
theorem K_spec_l2Fire : compile Try.prog ⟨mf, false⟩ Try.f151 = some ir_spec_l2Fire := by kernel_rfl
theorem K_spec_Fire : compile Try.prog ⟨mf, false⟩ Try.f127 = some ir_spec_Fire := by kernel_rfl
theorem K_spec_l14Step : compile Try.prog ⟨mf, false⟩ Try.f100 = some ir_spec_l14Step := by kernel_rfl
theorem K_spec_l14Own : compile Try.prog ⟨mf, false⟩ Try.f102 = some ir_spec_l14Own := by kernel_rfl
theorem K_spec_PlayCase : compile Try.prog ⟨mf, false⟩ Try.f62 = some ir_spec_PlayCase := by kernel_rfl
theorem K_impl_within : compile Try.prog ⟨mf, false⟩ Try.f80 = some ir_impl_within := by kernel_rfl
theorem K_impl_increasing : compile Try.prog ⟨mf, false⟩ Try.f137 = some ir_impl_increasing := by kernel_rfl
theorem K_impl_allWithin : compile Try.prog ⟨mf, false⟩ Try.f138 = some ir_impl_allWithin := by kernel_rfl
theorem K_impl_areConds : compile Try.prog ⟨mf, false⟩ Try.f136 = some ir_impl_areConds := by kernel_rfl
theorem K_slices_Index_sl_int_int : compile Try.prog ⟨mf, false⟩ Try.f152 = some ir_slices_Index_sl_int_int := by kernel_rfl
theorem K_slices_Contains_sl_int_int : compile Try.prog ⟨mf, false⟩ Try.f139 = some ir_slices_Contains_sl_int_int := by kernel_rfl
theorem K_impl_isTask : compile Try.prog ⟨mf, false⟩ Try.f110 = some ir_impl_isTask := by kernel_rfl
theorem K_impl_movesOf : compile Try.prog ⟨mf, false⟩ Try.f78 = some ir_impl_movesOf := by kernel_rfl
theorem K_impl_setOf : compile Try.prog ⟨mf, false⟩ Try.f144 = some ir_impl_setOf := by kernel_rfl
theorem K_impl_regionOf : compile Try.prog ⟨mf, false⟩ Try.f81 = some ir_impl_regionOf := by kernel_rfl
theorem K_impl_transOf : compile Try.prog ⟨mf, false⟩ Try.f117 = some ir_impl_transOf := by kernel_rfl
theorem K_impl_specFlow : compile Try.prog ⟨mf, false⟩ Try.f91 = some ir_impl_specFlow := by kernel_rfl
theorem K_impl_arePlaces : compile Try.prog ⟨mf, false⟩ Try.f155 = some ir_impl_arePlaces := by kernel_rfl
theorem K_impl_GoodNet_1 : compile Try.prog ⟨mf, false⟩ Try.f154 = some ir_impl_GoodNet_1 := by kernel_rfl
theorem K_slices_IndexFunc_sl_impl_Trans_impl_Trans : compile Try.prog ⟨mf, false⟩ Try.f159 = some ir_slices_IndexFunc_sl_impl_Trans_impl_Trans := by kernel_rfl
theorem K_slices_ContainsFunc_sl_impl_Trans_impl_Trans : compile Try.prog ⟨mf, false⟩ Try.f153 = some ir_slices_ContainsFunc_sl_impl_Trans_impl_Trans := by kernel_rfl
theorem K_impl_GoodNet : compile Try.prog ⟨mf, false⟩ Try.f140 = some ir_impl_GoodNet := by kernel_rfl
theorem K_impl_reachedFrom_1 : compile Try.prog ⟨mf, false⟩ Try.f160 = some ir_impl_reachedFrom_1 := by kernel_rfl
theorem K_slices_IndexFunc_sl_int_int : compile Try.prog ⟨mf, false⟩ Try.f158 = some ir_slices_IndexFunc_sl_int_int := by kernel_rfl
theorem K_slices_ContainsFunc_sl_int_int : compile Try.prog ⟨mf, false⟩ Try.f148 = some ir_slices_ContainsFunc_sl_int_int := by kernel_rfl
theorem K_impl_reachedFrom : compile Try.prog ⟨mf, false⟩ Try.f156 = some ir_impl_reachedFrom := by kernel_rfl
theorem K_impl_bothOf : compile Try.prog ⟨mf, false⟩ Try.f157 = some ir_impl_bothOf := by kernel_rfl
theorem K_impl_onWay : compile Try.prog ⟨mf, false⟩ Try.f141 = some ir_impl_onWay := by kernel_rfl
theorem K_impl_GoodFlow : compile Try.prog ⟨mf, false⟩ Try.f111 = some ir_impl_GoodFlow := by kernel_rfl
theorem K_impl_isSpec : compile Try.prog ⟨mf, false⟩ Try.f74 = some ir_impl_isSpec := by kernel_rfl
theorem K_impl_singleMark : compile Try.prog ⟨mf, false⟩ Try.f116 = some ir_impl_singleMark := by kernel_rfl
theorem K_impl_newCase : compile Try.prog ⟨mf, false⟩ Try.f88 = some ir_impl_newCase := by kernel_rfl
theorem K_impl_isEnabled_1 : compile Try.prog ⟨mf, false⟩ Try.f149 = some ir_impl_isEnabled_1 := by kernel_rfl
theorem K_impl_isEnabled : compile Try.prog ⟨mf, false⟩ Try.f126 = some ir_impl_isEnabled := by kernel_rfl
theorem K_impl_movesIn_1 : compile Try.prog ⟨mf, false⟩ Try.f125 = some ir_impl_movesIn_1 := by kernel_rfl
theorem K_slices_IndexFunc_sl_impl_Move_impl_Move : compile Try.prog ⟨mf, false⟩ Try.f147 = some ir_slices_IndexFunc_sl_impl_Move_impl_Move := by kernel_rfl
theorem K_slices_DeleteFunc_sl_impl_Move_impl_Move : compile Try.prog ⟨mf, false⟩ Try.f124 = some ir_slices_DeleteFunc_sl_impl_Move_impl_Move := by kernel_rfl
theorem K_impl_movesIn : compile Try.prog ⟨mf, false⟩ Try.f99 = some ir_impl_movesIn := by kernel_rfl
theorem K_slices_Index_sl_impl_Move_impl_Move : compile Try.prog ⟨mf, false⟩ Try.f77 = some ir_slices_Index_sl_impl_Move_impl_Move := by kernel_rfl
theorem K_slices_Contains_sl_impl_Move_impl_Move : compile Try.prog ⟨mf, false⟩ Try.f128 = some ir_slices_Contains_sl_impl_Move_impl_Move := by kernel_rfl
theorem K_impl_fired : compile Try.prog ⟨mf, false⟩ Try.f130 = some ir_impl_fired := by kernel_rfl
theorem K_impl_checkedMark : compile Try.prog ⟨mf, false⟩ Try.f129 = some ir_impl_checkedMark := by kernel_rfl
theorem K_impl_stepCase : compile Try.prog ⟨mf, false⟩ Try.f101 = some ir_impl_stepCase := by kernel_rfl
theorem K_impl_PlayCase : compile Try.prog ⟨mf, false⟩ Try.f64 = some ir_impl_PlayCase := by kernel_rfl
theorem K_laws_eqIntS : compile Try.prog ⟨mf, false⟩ Try.f25 = some ir_laws_eqIntS := by kernel_rfl
theorem K_laws_eqCase : compile Try.prog ⟨mf, false⟩ Try.f33 = some ir_laws_eqCase := by kernel_rfl
theorem K_laws_eqBoolS : compile Try.prog ⟨mf, false⟩ Try.f65 = some ir_laws_eqBoolS := by kernel_rfl
theorem K_laws_eqTask : compile Try.prog ⟨mf, false⟩ Try.f112 = some ir_laws_eqTask := by kernel_rfl
theorem K_laws_eqTaskS : compile Try.prog ⟨mf, false⟩ Try.f75 = some ir_laws_eqTaskS := by kernel_rfl
theorem K_laws_eqSpec : compile Try.prog ⟨mf, false⟩ Try.f19 = some ir_laws_eqSpec := by kernel_rfl
theorem K_laws_eqMove : compile Try.prog ⟨mf, false⟩ Try.f89 = some ir_laws_eqMove := by kernel_rfl
theorem K_laws_eqMoveS : compile Try.prog ⟨mf, false⟩ Try.f40 = some ir_laws_eqMoveS := by kernel_rfl
theorem K_laws_markIntS : compile Try.prog ⟨mf, true⟩ Try.f27 = some ir_laws_markIntS := by kernel_rfl
theorem K_laws_markTaskS : compile Try.prog ⟨mf, true⟩ Try.f82 = some ir_laws_markTaskS := by kernel_rfl
theorem K_laws_markSpec : compile Try.prog ⟨mf, true⟩ Try.f26 = some ir_laws_markSpec := by kernel_rfl
theorem K_laws_markMoveS : compile Try.prog ⟨mf, true⟩ Try.f41 = some ir_laws_markMoveS := by kernel_rfl
theorem K_laws_markCase : compile Try.prog ⟨mf, true⟩ Try.f36 = some ir_laws_markCase := by kernel_rfl
theorem K_laws_markBoolS : compile Try.prog ⟨mf, true⟩ Try.f66 = some ir_laws_markBoolS := by kernel_rfl
theorem K_laws_heldIntS : compile Try.prog ⟨mf, false⟩ Try.f28 = some ir_laws_heldIntS := by kernel_rfl
theorem K_laws_heldCase : compile Try.prog ⟨mf, false⟩ Try.f37 = some ir_laws_heldCase := by kernel_rfl
theorem K_laws_heldBoolS : compile Try.prog ⟨mf, false⟩ Try.f67 = some ir_laws_heldBoolS := by kernel_rfl
theorem K_laws_FnExactPlayCase : compile Try.prog ⟨mf, false⟩ Try.f14 = some ir_laws_FnExactPlayCase := by kernel_rfl
theorem tblOk : ∀ p ∈ tbl, ∃ (fn : Func) (m : Md), Try.prog.funcs[p.1]? = some fn ∧ compile Try.prog m fn = some p.2 := by
  unfold tbl
  refine List.forall_mem_cons.2 ⟨⟨Try.f83, ⟨mf, false⟩, Try.func83, K_laws_szIntS⟩, ?_⟩
  refine List.forall_mem_cons.2 ⟨⟨Try.f103, ⟨mf, false⟩, Try.func103, K_laws_szTask⟩, ?_⟩
  refine List.forall_mem_cons.2 ⟨⟨Try.f68, ⟨mf, false⟩, Try.func68, K_laws_szTaskS⟩, ?_⟩
  refine List.forall_mem_cons.2 ⟨⟨Try.f15, ⟨mf, false⟩, Try.func15, K_laws_szSpec⟩, ?_⟩
  refine List.forall_mem_cons.2 ⟨⟨Try.f61, ⟨mf, false⟩, Try.func61, K_laws_szMoveS⟩, ?_⟩
  refine List.forall_mem_cons.2 ⟨⟨Try.f85, ⟨mf, false⟩, Try.func85, K_laws_toIntS⟩, ?_⟩
  refine List.forall_mem_cons.2 ⟨⟨Try.f109, ⟨mf, false⟩, Try.func109, K_laws_toTask⟩, ?_⟩
  refine List.forall_mem_cons.2 ⟨⟨Try.f73, ⟨mf, true⟩, Try.func73, K_laws_toTaskS⟩, ?_⟩
  refine List.forall_mem_cons.2 ⟨⟨Try.f17, ⟨mf, true⟩, Try.func17, K_laws_toSpec⟩, ?_⟩
  refine List.forall_mem_cons.2 ⟨⟨Try.f21, ⟨mf, false⟩, Try.func21, K_laws_toMove⟩, ?_⟩
  refine List.forall_mem_cons.2 ⟨⟨Try.f63, ⟨mf, false⟩, Try.func63, K_laws_toMoveS⟩, ?_⟩
  refine List.forall_mem_cons.2 ⟨⟨Try.f69, ⟨mf, false⟩, Try.func69, K_spec_l1In⟩, ?_⟩
  refine List.forall_mem_cons.2 ⟨⟨Try.f104, ⟨mf, false⟩, Try.func104, K_spec_l1Has⟩, ?_⟩
  refine List.forall_mem_cons.2 ⟨⟨Try.f105, ⟨mf, false⟩, Try.func105, K_spec_l1Rising⟩, ?_⟩
  refine List.forall_mem_cons.2 ⟨⟨Try.f70, ⟨mf, false⟩, Try.func70, K_spec_l13Task⟩, ?_⟩
  refine List.forall_mem_cons.2 ⟨⟨Try.f106, ⟨mf, false⟩, Try.func106, K_spec_l1Own⟩, ?_⟩
  refine List.forall_mem_cons.2 ⟨⟨Try.f131, ⟨mf, false⟩, Try.func131, K_spec_l1Set⟩, ?_⟩
  refine List.forall_mem_cons.2 ⟨⟨Try.f107, ⟨mf, false⟩, Try.func107, K_spec_l13Some⟩, ?_⟩
  refine List.forall_mem_cons.2 ⟨⟨Try.f79, ⟨mf, false⟩, Try.func79, K_spec_l13Region⟩, ?_⟩
  refine List.forall_mem_cons.2 ⟨⟨Try.f71, ⟨mf, false⟩, Try.func71, K_spec_l13Lay⟩, ?_⟩
  refine List.forall_mem_cons.2 ⟨⟨Try.f142, ⟨mf, false⟩, Try.func142, K_spec_l1Places⟩, ?_⟩
  refine List.forall_mem_cons.2 ⟨⟨Try.f132, ⟨mf, false⟩, Try.func132, K_spec_GoodNet⟩, ?_⟩
  refine List.forall_mem_cons.2 ⟨⟨Try.f133, ⟨mf, false⟩, Try.func133, K_spec_l3Forward⟩, ?_⟩
  refine List.forall_mem_cons.2 ⟨⟨Try.f134, ⟨mf, false⟩, Try.func134, K_spec_l3Back⟩, ?_⟩
  refine List.forall_mem_cons.2 ⟨⟨Try.f135, ⟨mf, false⟩, Try.func135, K_spec_l3Both⟩, ?_⟩
  refine List.forall_mem_cons.2 ⟨⟨Try.f108, ⟨mf, false⟩, Try.func108, K_spec_OnWay⟩, ?_⟩
  refine List.forall_mem_cons.2 ⟨⟨Try.f72, ⟨mf, false⟩, Try.func72, K_spec_GoodFlow⟩, ?_⟩
  refine List.forall_mem_cons.2 ⟨⟨Try.f16, ⟨mf, false⟩, Try.func16, K_spec_GoodSpec⟩, ?_⟩
  refine List.forall_mem_cons.2 ⟨⟨Try.f87, ⟨mf, false⟩, Try.func87, K_spec_l3One⟩, ?_⟩
  refine List.forall_mem_cons.2 ⟨⟨Try.f34, ⟨mf, false⟩, Try.func34, K_spec_NewCase⟩, ?_⟩
  refine List.forall_mem_cons.2 ⟨⟨Try.f76, ⟨mf, false⟩, Try.func76, K_spec_l13No⟩, ?_⟩
  refine List.forall_mem_cons.2 ⟨⟨Try.f143, ⟨mf, false⟩, Try.func143, K_spec_l1All⟩, ?_⟩
  refine List.forall_mem_cons.2 ⟨⟨Try.f114, ⟨mf, false⟩, Try.func114, K_spec_GoodMark⟩, ?_⟩
  refine List.forall_mem_cons.2 ⟨⟨Try.f150, ⟨mf, false⟩, Try.func150, K_spec_l2Marked⟩, ?_⟩
  refine List.forall_mem_cons.2 ⟨⟨Try.f146, ⟨mf, false⟩, Try.func146, K_spec_l2Can⟩, ?_⟩
  refine List.forall_mem_cons.2 ⟨⟨Try.f151, ⟨mf, false⟩, Try.func151, K_spec_l2Fire⟩, ?_⟩
  refine List.forall_mem_cons.2 ⟨⟨Try.f127, ⟨mf, false⟩, Try.func127, K_spec_Fire⟩, ?_⟩
  refine List.forall_mem_cons.2 ⟨⟨Try.f100, ⟨mf, false⟩, Try.func100, K_spec_l14Step⟩, ?_⟩
  refine List.forall_mem_cons.2 ⟨⟨Try.f102, ⟨mf, false⟩, Try.func102, K_spec_l14Own⟩, ?_⟩
  refine List.forall_mem_cons.2 ⟨⟨Try.f62, ⟨mf, false⟩, Try.func62, K_spec_PlayCase⟩, ?_⟩
  refine List.forall_mem_cons.2 ⟨⟨Try.f80, ⟨mf, false⟩, Try.func80, K_impl_within⟩, ?_⟩
  refine List.forall_mem_cons.2 ⟨⟨Try.f137, ⟨mf, false⟩, Try.func137, K_impl_increasing⟩, ?_⟩
  refine List.forall_mem_cons.2 ⟨⟨Try.f138, ⟨mf, false⟩, Try.func138, K_impl_allWithin⟩, ?_⟩
  refine List.forall_mem_cons.2 ⟨⟨Try.f136, ⟨mf, false⟩, Try.func136, K_impl_areConds⟩, ?_⟩
  refine List.forall_mem_cons.2 ⟨⟨Try.f152, ⟨mf, false⟩, Try.func152, K_slices_Index_sl_int_int⟩, ?_⟩
  refine List.forall_mem_cons.2 ⟨⟨Try.f139, ⟨mf, false⟩, Try.func139, K_slices_Contains_sl_int_int⟩, ?_⟩
  refine List.forall_mem_cons.2 ⟨⟨Try.f110, ⟨mf, false⟩, Try.func110, K_impl_isTask⟩, ?_⟩
  refine List.forall_mem_cons.2 ⟨⟨Try.f78, ⟨mf, false⟩, Try.func78, K_impl_movesOf⟩, ?_⟩
  refine List.forall_mem_cons.2 ⟨⟨Try.f144, ⟨mf, false⟩, Try.func144, K_impl_setOf⟩, ?_⟩
  refine List.forall_mem_cons.2 ⟨⟨Try.f81, ⟨mf, false⟩, Try.func81, K_impl_regionOf⟩, ?_⟩
  refine List.forall_mem_cons.2 ⟨⟨Try.f117, ⟨mf, false⟩, Try.func117, K_impl_transOf⟩, ?_⟩
  refine List.forall_mem_cons.2 ⟨⟨Try.f91, ⟨mf, false⟩, Try.func91, K_impl_specFlow⟩, ?_⟩
  refine List.forall_mem_cons.2 ⟨⟨Try.f155, ⟨mf, false⟩, Try.func155, K_impl_arePlaces⟩, ?_⟩
  refine List.forall_mem_cons.2 ⟨⟨Try.f154, ⟨mf, false⟩, Try.func154, K_impl_GoodNet_1⟩, ?_⟩
  refine List.forall_mem_cons.2 ⟨⟨Try.f159, ⟨mf, false⟩, Try.func159, K_slices_IndexFunc_sl_impl_Trans_impl_Trans⟩, ?_⟩
  refine List.forall_mem_cons.2 ⟨⟨Try.f153, ⟨mf, false⟩, Try.func153, K_slices_ContainsFunc_sl_impl_Trans_impl_Trans⟩, ?_⟩
  refine List.forall_mem_cons.2 ⟨⟨Try.f140, ⟨mf, false⟩, Try.func140, K_impl_GoodNet⟩, ?_⟩
  refine List.forall_mem_cons.2 ⟨⟨Try.f160, ⟨mf, false⟩, Try.func160, K_impl_reachedFrom_1⟩, ?_⟩
  refine List.forall_mem_cons.2 ⟨⟨Try.f158, ⟨mf, false⟩, Try.func158, K_slices_IndexFunc_sl_int_int⟩, ?_⟩
  refine List.forall_mem_cons.2 ⟨⟨Try.f148, ⟨mf, false⟩, Try.func148, K_slices_ContainsFunc_sl_int_int⟩, ?_⟩
  refine List.forall_mem_cons.2 ⟨⟨Try.f156, ⟨mf, false⟩, Try.func156, K_impl_reachedFrom⟩, ?_⟩
  refine List.forall_mem_cons.2 ⟨⟨Try.f157, ⟨mf, false⟩, Try.func157, K_impl_bothOf⟩, ?_⟩
  refine List.forall_mem_cons.2 ⟨⟨Try.f141, ⟨mf, false⟩, Try.func141, K_impl_onWay⟩, ?_⟩
  refine List.forall_mem_cons.2 ⟨⟨Try.f111, ⟨mf, false⟩, Try.func111, K_impl_GoodFlow⟩, ?_⟩
  refine List.forall_mem_cons.2 ⟨⟨Try.f74, ⟨mf, false⟩, Try.func74, K_impl_isSpec⟩, ?_⟩
  refine List.forall_mem_cons.2 ⟨⟨Try.f116, ⟨mf, false⟩, Try.func116, K_impl_singleMark⟩, ?_⟩
  refine List.forall_mem_cons.2 ⟨⟨Try.f88, ⟨mf, false⟩, Try.func88, K_impl_newCase⟩, ?_⟩
  refine List.forall_mem_cons.2 ⟨⟨Try.f149, ⟨mf, false⟩, Try.func149, K_impl_isEnabled_1⟩, ?_⟩
  refine List.forall_mem_cons.2 ⟨⟨Try.f126, ⟨mf, false⟩, Try.func126, K_impl_isEnabled⟩, ?_⟩
  refine List.forall_mem_cons.2 ⟨⟨Try.f125, ⟨mf, false⟩, Try.func125, K_impl_movesIn_1⟩, ?_⟩
  refine List.forall_mem_cons.2 ⟨⟨Try.f147, ⟨mf, false⟩, Try.func147, K_slices_IndexFunc_sl_impl_Move_impl_Move⟩, ?_⟩
  refine List.forall_mem_cons.2 ⟨⟨Try.f124, ⟨mf, false⟩, Try.func124, K_slices_DeleteFunc_sl_impl_Move_impl_Move⟩, ?_⟩
  refine List.forall_mem_cons.2 ⟨⟨Try.f99, ⟨mf, false⟩, Try.func99, K_impl_movesIn⟩, ?_⟩
  refine List.forall_mem_cons.2 ⟨⟨Try.f77, ⟨mf, false⟩, Try.func77, K_slices_Index_sl_impl_Move_impl_Move⟩, ?_⟩
  refine List.forall_mem_cons.2 ⟨⟨Try.f128, ⟨mf, false⟩, Try.func128, K_slices_Contains_sl_impl_Move_impl_Move⟩, ?_⟩
  refine List.forall_mem_cons.2 ⟨⟨Try.f130, ⟨mf, false⟩, Try.func130, K_impl_fired⟩, ?_⟩
  refine List.forall_mem_cons.2 ⟨⟨Try.f129, ⟨mf, false⟩, Try.func129, K_impl_checkedMark⟩, ?_⟩
  refine List.forall_mem_cons.2 ⟨⟨Try.f101, ⟨mf, false⟩, Try.func101, K_impl_stepCase⟩, ?_⟩
  refine List.forall_mem_cons.2 ⟨⟨Try.f64, ⟨mf, false⟩, Try.func64, K_impl_PlayCase⟩, ?_⟩
  refine List.forall_mem_cons.2 ⟨⟨Try.f25, ⟨mf, false⟩, Try.func25, K_laws_eqIntS⟩, ?_⟩
  refine List.forall_mem_cons.2 ⟨⟨Try.f33, ⟨mf, false⟩, Try.func33, K_laws_eqCase⟩, ?_⟩
  refine List.forall_mem_cons.2 ⟨⟨Try.f65, ⟨mf, false⟩, Try.func65, K_laws_eqBoolS⟩, ?_⟩
  refine List.forall_mem_cons.2 ⟨⟨Try.f112, ⟨mf, false⟩, Try.func112, K_laws_eqTask⟩, ?_⟩
  refine List.forall_mem_cons.2 ⟨⟨Try.f75, ⟨mf, false⟩, Try.func75, K_laws_eqTaskS⟩, ?_⟩
  refine List.forall_mem_cons.2 ⟨⟨Try.f19, ⟨mf, false⟩, Try.func19, K_laws_eqSpec⟩, ?_⟩
  refine List.forall_mem_cons.2 ⟨⟨Try.f89, ⟨mf, false⟩, Try.func89, K_laws_eqMove⟩, ?_⟩
  refine List.forall_mem_cons.2 ⟨⟨Try.f40, ⟨mf, false⟩, Try.func40, K_laws_eqMoveS⟩, ?_⟩
  refine List.forall_mem_cons.2 ⟨⟨Try.f27, ⟨mf, true⟩, Try.func27, K_laws_markIntS⟩, ?_⟩
  refine List.forall_mem_cons.2 ⟨⟨Try.f82, ⟨mf, true⟩, Try.func82, K_laws_markTaskS⟩, ?_⟩
  refine List.forall_mem_cons.2 ⟨⟨Try.f26, ⟨mf, true⟩, Try.func26, K_laws_markSpec⟩, ?_⟩
  refine List.forall_mem_cons.2 ⟨⟨Try.f41, ⟨mf, true⟩, Try.func41, K_laws_markMoveS⟩, ?_⟩
  refine List.forall_mem_cons.2 ⟨⟨Try.f36, ⟨mf, true⟩, Try.func36, K_laws_markCase⟩, ?_⟩
  refine List.forall_mem_cons.2 ⟨⟨Try.f66, ⟨mf, true⟩, Try.func66, K_laws_markBoolS⟩, ?_⟩
  refine List.forall_mem_cons.2 ⟨⟨Try.f28, ⟨mf, false⟩, Try.func28, K_laws_heldIntS⟩, ?_⟩
  refine List.forall_mem_cons.2 ⟨⟨Try.f37, ⟨mf, false⟩, Try.func37, K_laws_heldCase⟩, ?_⟩
  refine List.forall_mem_cons.2 ⟨⟨Try.f67, ⟨mf, false⟩, Try.func67, K_laws_heldBoolS⟩, ?_⟩
  refine List.forall_mem_cons.2 ⟨⟨Try.f14, ⟨mf, false⟩, Try.func14, K_laws_FnExactPlayCase⟩, ?_⟩
  exact fun _ h => (by cases h)
theorem hF (f : FuncId) (i : IFun) (h : F f = some i) : ∃ (fn : Func) (m : Md), Try.prog.funcs[f]? = some fn ∧ compile Try.prog m fn = some i := by
  unfold F at h
  simp only [Option.map_eq_some_iff] at h
  obtain ⟨p, hp, rfl⟩ := h
  have h1 := List.mem_of_find?_eq_some hp
  have h2 := List.find?_some hp
  have h3 : p.1 = f := by simpa using h2
  subst h3
  exact tblOk p h1
theorem extsOk : ∀ p ∈ exts, ExtOk Try.prog p.1 p.2 := by
  unfold exts
  refine List.forall_mem_cons.2 ⟨extClone_ok (mf := ⟨mf, false⟩) (Checked.mixed Try.checked) Try.func113 (show compile Try.prog ⟨mf, false⟩ Try.f113 = some (irClone t_int true 1) by kernel_rfl), ?_⟩
  exact fun _ h => (by cases h)
theorem hE (f : FuncId) (e : List PV → Option PV) (h : ext f = some e) : ExtOk Try.prog f e := by
  unfold ext at h
  simp only [Option.map_eq_some_iff] at h
  obtain ⟨p, hp, rfl⟩ := h
  have h1 := List.mem_of_find?_eq_some hp
  have h2 := List.find?_some hp
  have h3 : p.1 = f := by simpa using h2
  subst h3
  exact extsOk p h1
end Go.Proofs.Ytblolnhajgmbdaa.Pi
