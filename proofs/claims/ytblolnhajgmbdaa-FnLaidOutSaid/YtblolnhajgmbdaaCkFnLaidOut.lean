/- The forms are those of the program. No condition. -/
import Derived.Test.YtblolnhajgmbdaaChecked
import Derived.Test.YtblolnhajgmbdaaIrFnLaidOut
import Derived.Test.YtblolnhajgmbdaaPiTop
import Derived.Test.YtblolnhajgmbdaaPiDz
import Derived.KernelRfl
namespace Go.Proofs.Ytblolnhajgmbdaa.Pi
open Go
set_option linter.all false
def mf (f : FuncId) : Bool := [122, 95, 145, 118, 119, 120, 94, 121, 93].contains f
theorem K_laws_big : compile Try.prog ⟨mf, false⟩ Try.f43 = some ir_laws_big := by kernel_rfl
theorem K_spec_l1Cur_next : compile Try.prog ⟨mf, false⟩ Try.f122 = some ir_spec_l1Cur_next := by kernel_rfl
theorem K_spec_l1Cur_pick : compile Try.prog ⟨mf, false⟩ Try.f95 = some ir_spec_l1Cur_pick := by kernel_rfl
theorem K_spec_l1Cur_taskOf : compile Try.prog ⟨mf, false⟩ Try.f145 = some ir_spec_l1Cur_taskOf := by kernel_rfl
theorem K_spec_l1Cur_soundSpec : compile Try.prog ⟨mf, false⟩ Try.f118 = some ir_spec_l1Cur_soundSpec := by kernel_rfl
theorem K_spec_l1Put : compile Try.prog ⟨mf, false⟩ Try.f119 = some ir_spec_l1Put := by kernel_rfl
theorem K_spec_l1Cur_someOf : compile Try.prog ⟨mf, false⟩ Try.f120 = some ir_spec_l1Cur_someOf := by kernel_rfl
theorem K_spec_l1Cur_one : compile Try.prog ⟨mf, false⟩ Try.f94 = some ir_spec_l1Cur_one := by kernel_rfl
theorem K_spec_l1Cur_among : compile Try.prog ⟨mf, false⟩ Try.f121 = some ir_spec_l1Cur_among := by kernel_rfl
theorem K_spec_l1Cur_spec : compile Try.prog ⟨mf, false⟩ Try.f93 = some ir_spec_l1Cur_spec := by kernel_rfl
theorem K_spec_DrawGoodSpec : compile Try.prog ⟨mf, false⟩ Try.f90 = some ir_spec_DrawGoodSpec := by kernel_rfl
theorem K_spec_DrawSpecFlow : compile Try.prog ⟨mf, false⟩ Try.f44 = some ir_spec_DrawSpecFlow := by kernel_rfl
theorem K_impl_within : compile Try.prog ⟨mf, false⟩ Try.f80 = some ir_impl_within := by kernel_rfl
theorem K_impl_increasing : compile Try.prog ⟨mf, false⟩ Try.f137 = some ir_impl_increasing := by kernel_rfl
theorem K_impl_allWithin : compile Try.prog ⟨mf, false⟩ Try.f138 = some ir_impl_allWithin := by kernel_rfl
theorem K_impl_areConds : compile Try.prog ⟨mf, false⟩ Try.f136 = some ir_impl_areConds := by kernel_rfl
theorem K_slices_Index_sl_int_int : compile Try.prog ⟨mf, false⟩ Try.f152 = some ir_slices_Index_sl_int_int := by kernel_rfl
theorem K_slices_Contains_sl_int_int : compile Try.prog ⟨mf, false⟩ Try.f139 = some ir_slices_Contains_sl_int_int := by kernel_rfl
theorem K_impl_isTask : compile Try.prog ⟨mf, false⟩ Try.f110 = some ir_impl_isTask := by kernel_rfl
theorem K_impl_movesOf : compile Try.prog ⟨mf, false⟩ Try.f78 = some ir_impl_movesOf := by kernel_rfl
theorem K_impl_setOf : compile Try.prog ⟨mf, false⟩ Try.f144 = some ir_impl_setOf := by kernel_rfl
theorem K_impl_regionOf : compile Try.prog ⟨mf, false⟩ Try.f81 = some ir_impl_regionOf := by kernel_rfl
theorem K_impl_transOf : compile Try.prog ⟨mf, false⟩ Try.f117 = some ir_impl_transOf := by kernel_rfl
theorem K_impl_specFlow : compile Try.prog ⟨mf, false⟩ Try.f91 = some ir_impl_specFlow := by kernel_rfl
theorem K_impl_arePlaces : compile Try.prog ⟨mf, false⟩ Try.f155 = some ir_impl_arePlaces := by kernel_rfl
theorem K_impl_GoodNet_1 : compile Try.prog ⟨mf, false⟩ Try.f154 = some ir_impl_GoodNet_1 := by kernel_rfl
theorem K_slices_IndexFunc_sl_impl_Trans_impl_Trans : compile Try.prog ⟨mf, false⟩ Try.f159 = some ir_slices_IndexFunc_sl_impl_Trans_impl_Trans := by kernel_rfl
theorem K_slices_ContainsFunc_sl_impl_Trans_impl_Trans : compile Try.prog ⟨mf, false⟩ Try.f153 = some ir_slices_ContainsFunc_sl_impl_Trans_impl_Trans := by kernel_rfl
theorem K_impl_GoodNet : compile Try.prog ⟨mf, false⟩ Try.f140 = some ir_impl_GoodNet := by kernel_rfl
theorem K_impl_reachedFrom_1 : compile Try.prog ⟨mf, false⟩ Try.f160 = some ir_impl_reachedFrom_1 := by kernel_rfl
theorem K_slices_IndexFunc_sl_int_int : compile Try.prog ⟨mf, false⟩ Try.f158 = some ir_slices_IndexFunc_sl_int_int := by kernel_rfl
theorem K_slices_ContainsFunc_sl_int_int : compile Try.prog ⟨mf, false⟩ Try.f148 = some ir_slices_ContainsFunc_sl_int_int := by kernel_rfl
theorem K_impl_reachedFrom : compile Try.prog ⟨mf, false⟩ Try.f156 = some ir_impl_reachedFrom := by kernel_rfl
theorem K_impl_bothOf : compile Try.prog ⟨mf, false⟩ Try.f157 = some ir_impl_bothOf := by kernel_rfl
theorem K_impl_onWay : compile Try.prog ⟨mf, false⟩ Try.f141 = some ir_impl_onWay := by kernel_rfl
theorem K_impl_GoodFlow : compile Try.prog ⟨mf, false⟩ Try.f111 = some ir_impl_GoodFlow := by kernel_rfl
theorem K_impl_isSpec : compile Try.prog ⟨mf, false⟩ Try.f74 = some ir_impl_isSpec := by kernel_rfl
theorem K_impl_SpecFlow : compile Try.prog ⟨mf, false⟩ Try.f45 = some ir_impl_SpecFlow := by kernel_rfl
theorem K_spec_l1In : compile Try.prog ⟨mf, false⟩ Try.f69 = some ir_spec_l1In := by kernel_rfl
theorem K_spec_l1Has : compile Try.prog ⟨mf, false⟩ Try.f104 = some ir_spec_l1Has := by kernel_rfl
theorem K_spec_l1Rising : compile Try.prog ⟨mf, false⟩ Try.f105 = some ir_spec_l1Rising := by kernel_rfl
theorem K_spec_l13Task : compile Try.prog ⟨mf, false⟩ Try.f70 = some ir_spec_l13Task := by kernel_rfl
theorem K_spec_l1Own : compile Try.prog ⟨mf, false⟩ Try.f106 = some ir_spec_l1Own := by kernel_rfl
theorem K_spec_l1Set : compile Try.prog ⟨mf, false⟩ Try.f131 = some ir_spec_l1Set := by kernel_rfl
theorem K_spec_l13Some : compile Try.prog ⟨mf, false⟩ Try.f107 = some ir_spec_l13Some := by kernel_rfl
theorem K_spec_l13Region : compile Try.prog ⟨mf, false⟩ Try.f79 = some ir_spec_l13Region := by kernel_rfl
theorem K_spec_l13Lay : compile Try.prog ⟨mf, false⟩ Try.f71 = some ir_spec_l13Lay := by kernel_rfl
theorem K_spec_l1Places : compile Try.prog ⟨mf, false⟩ Try.f142 = some ir_spec_l1Places := by kernel_rfl
theorem K_spec_GoodNet : compile Try.prog ⟨mf, false⟩ Try.f132 = some ir_spec_GoodNet := by kernel_rfl
theorem K_spec_l3Forward : compile Try.prog ⟨mf, false⟩ Try.f133 = some ir_spec_l3Forward := by kernel_rfl
theorem K_spec_l3Back : compile Try.prog ⟨mf, false⟩ Try.f134 = some ir_spec_l3Back := by kernel_rfl
theorem K_spec_l3Both : compile Try.prog ⟨mf, false⟩ Try.f135 = some ir_spec_l3Both := by kernel_rfl
theorem K_spec_OnWay : compile Try.prog ⟨mf, false⟩ Try.f108 = some ir_spec_OnWay := by kernel_rfl
theorem K_spec_GoodFlow : compile Try.prog ⟨mf, false⟩ Try.f72 = some ir_spec_GoodFlow := by kernel_rfl
theorem K_spec_GoodSpec : compile Try.prog ⟨mf, false⟩ Try.f16 = some ir_spec_GoodSpec := by kernel_rfl
theorem K_spec_SpecFlow : compile Try.prog ⟨mf, false⟩ Try.f46 = some ir_spec_SpecFlow := by kernel_rfl
theorem K_impl_MovesOf : compile Try.prog ⟨mf, false⟩ Try.f39 = some ir_impl_MovesOf := by kernel_rfl
theorem K_spec_MovesOf : compile Try.prog ⟨mf, false⟩ Try.f38 = some ir_spec_MovesOf := by kernel_rfl
theorem K_laws_sameInts : compile Try.prog ⟨mf, false⟩ Try.f50 = some ir_laws_sameInts := by kernel_rfl
theorem K_laws_sameNet : compile Try.prog ⟨mf, false⟩ Try.f92 = some ir_laws_sameNet := by kernel_rfl
theorem K_laws_sameFlow : compile Try.prog ⟨mf, false⟩ Try.f47 = some ir_laws_sameFlow := by kernel_rfl
theorem K_laws_sameMoves : compile Try.prog ⟨mf, false⟩ Try.f48 = some ir_laws_sameMoves := by kernel_rfl
theorem K_impl_GoodSpec : compile Try.prog ⟨mf, false⟩ Try.f18 = some ir_impl_GoodSpec := by kernel_rfl
theorem K_slices_Index_sl_impl_Move_impl_Move : compile Try.prog ⟨mf, false⟩ Try.f77 = some ir_slices_Index_sl_impl_Move_impl_Move := by kernel_rfl
theorem K_impl_MoveNo : compile Try.prog ⟨mf, false⟩ Try.f22 = some ir_impl_MoveNo := by kernel_rfl
theorem K_impl_RegionOf : compile Try.prog ⟨mf, false⟩ Try.f24 = some ir_impl_RegionOf := by kernel_rfl
theorem K_laws_has : compile Try.prog ⟨mf, false⟩ Try.f49 = some ir_laws_has := by kernel_rfl
theorem K_spec_DrawMoveNo : compile Try.prog ⟨mf, false⟩ Try.f51 = some ir_spec_DrawMoveNo := by kernel_rfl
theorem K_spec_l13No : compile Try.prog ⟨mf, false⟩ Try.f76 = some ir_spec_l13No := by kernel_rfl
theorem K_spec_MoveNo : compile Try.prog ⟨mf, false⟩ Try.f20 = some ir_spec_MoveNo := by kernel_rfl
theorem K_spec_DrawRegionOf : compile Try.prog ⟨mf, false⟩ Try.f52 = some ir_spec_DrawRegionOf := by kernel_rfl
theorem K_spec_RegionOf : compile Try.prog ⟨mf, false⟩ Try.f23 = some ir_spec_RegionOf := by kernel_rfl
theorem K_laws_FnLaidOut : compile Try.prog ⟨mf, false⟩ Try.f9 = some ir_laws_FnLaidOut := by kernel_rfl
theorem tblOk : ∀ p ∈ tbl, ∃ (fn : Func) (m : Md), Try.prog.funcs[p.1]? = some fn ∧ compile Try.prog m fn = some p.2 := by
  unfold tbl
  refine List.forall_mem_cons.2 ⟨⟨Try.f43, ⟨mf, false⟩, Try.func43, K_laws_big⟩, ?_⟩
  refine List.forall_mem_cons.2 ⟨⟨Try.f122, ⟨mf, false⟩, Try.func122, K_spec_l1Cur_next⟩, ?_⟩
  refine List.forall_mem_cons.2 ⟨⟨Try.f95, ⟨mf, false⟩, Try.func95, K_spec_l1Cur_pick⟩, ?_⟩
  refine List.forall_mem_cons.2 ⟨⟨Try.f145, ⟨mf, false⟩, Try.func145, K_spec_l1Cur_taskOf⟩, ?_⟩
  refine List.forall_mem_cons.2 ⟨⟨Try.f118, ⟨mf, false⟩, Try.func118, K_spec_l1Cur_soundSpec⟩, ?_⟩
  refine List.forall_mem_cons.2 ⟨⟨Try.f119, ⟨mf, false⟩, Try.func119, K_spec_l1Put⟩, ?_⟩
  refine List.forall_mem_cons.2 ⟨⟨Try.f120, ⟨mf, false⟩, Try.func120, K_spec_l1Cur_someOf⟩, ?_⟩
  refine List.forall_mem_cons.2 ⟨⟨Try.f94, ⟨mf, false⟩, Try.func94, K_spec_l1Cur_one⟩, ?_⟩
  refine List.forall_mem_cons.2 ⟨⟨Try.f121, ⟨mf, false⟩, Try.func121, K_spec_l1Cur_among⟩, ?_⟩
  refine List.forall_mem_cons.2 ⟨⟨Try.f93, ⟨mf, false⟩, Try.func93, K_spec_l1Cur_spec⟩, ?_⟩
  refine List.forall_mem_cons.2 ⟨⟨Try.f90, ⟨mf, false⟩, Try.func90, K_spec_DrawGoodSpec⟩, ?_⟩
  refine List.forall_mem_cons.2 ⟨⟨Try.f44, ⟨mf, false⟩, Try.func44, K_spec_DrawSpecFlow⟩, ?_⟩
  refine List.forall_mem_cons.2 ⟨⟨Try.f80, ⟨mf, false⟩, Try.func80, K_impl_within⟩, ?_⟩
  refine List.forall_mem_cons.2 ⟨⟨Try.f137, ⟨mf, false⟩, Try.func137, K_impl_increasing⟩, ?_⟩
  refine List.forall_mem_cons.2 ⟨⟨Try.f138, ⟨mf, false⟩, Try.func138, K_impl_allWithin⟩, ?_⟩
  refine List.forall_mem_cons.2 ⟨⟨Try.f136, ⟨mf, false⟩, Try.func136, K_impl_areConds⟩, ?_⟩
  refine List.forall_mem_cons.2 ⟨⟨Try.f152, ⟨mf, false⟩, Try.func152, K_slices_Index_sl_int_int⟩, ?_⟩
  refine List.forall_mem_cons.2 ⟨⟨Try.f139, ⟨mf, false⟩, Try.func139, K_slices_Contains_sl_int_int⟩, ?_⟩
  refine List.forall_mem_cons.2 ⟨⟨Try.f110, ⟨mf, false⟩, Try.func110, K_impl_isTask⟩, ?_⟩
  refine List.forall_mem_cons.2 ⟨⟨Try.f78, ⟨mf, false⟩, Try.func78, K_impl_movesOf⟩, ?_⟩
  refine List.forall_mem_cons.2 ⟨⟨Try.f144, ⟨mf, false⟩, Try.func144, K_impl_setOf⟩, ?_⟩
  refine List.forall_mem_cons.2 ⟨⟨Try.f81, ⟨mf, false⟩, Try.func81, K_impl_regionOf⟩, ?_⟩
  refine List.forall_mem_cons.2 ⟨⟨Try.f117, ⟨mf, false⟩, Try.func117, K_impl_transOf⟩, ?_⟩
  refine List.forall_mem_cons.2 ⟨⟨Try.f91, ⟨mf, false⟩, Try.func91, K_impl_specFlow⟩, ?_⟩
  refine List.forall_mem_cons.2 ⟨⟨Try.f155, ⟨mf, false⟩, Try.func155, K_impl_arePlaces⟩, ?_⟩
  refine List.forall_mem_cons.2 ⟨⟨Try.f154, ⟨mf, false⟩, Try.func154, K_impl_GoodNet_1⟩, ?_⟩
  refine List.forall_mem_cons.2 ⟨⟨Try.f159, ⟨mf, false⟩, Try.func159, K_slices_IndexFunc_sl_impl_Trans_impl_Trans⟩, ?_⟩
  refine List.forall_mem_cons.2 ⟨⟨Try.f153, ⟨mf, false⟩, Try.func153, K_slices_ContainsFunc_sl_impl_Trans_impl_Trans⟩, ?_⟩
  refine List.forall_mem_cons.2 ⟨⟨Try.f140, ⟨mf, false⟩, Try.func140, K_impl_GoodNet⟩, ?_⟩
  refine List.forall_mem_cons.2 ⟨⟨Try.f160, ⟨mf, false⟩, Try.func160, K_impl_reachedFrom_1⟩, ?_⟩
  refine List.forall_mem_cons.2 ⟨⟨Try.f158, ⟨mf, false⟩, Try.func158, K_slices_IndexFunc_sl_int_int⟩, ?_⟩
  refine List.forall_mem_cons.2 ⟨⟨Try.f148, ⟨mf, false⟩, Try.func148, K_slices_ContainsFunc_sl_int_int⟩, ?_⟩
  refine List.forall_mem_cons.2 ⟨⟨Try.f156, ⟨mf, false⟩, Try.func156, K_impl_reachedFrom⟩, ?_⟩
  refine List.forall_mem_cons.2 ⟨⟨Try.f157, ⟨mf, false⟩, Try.func157, K_impl_bothOf⟩, ?_⟩
  refine List.forall_mem_cons.2 ⟨⟨Try.f141, ⟨mf, false⟩, Try.func141, K_impl_onWay⟩, ?_⟩
  refine List.forall_mem_cons.2 ⟨⟨Try.f111, ⟨mf, false⟩, Try.func111, K_impl_GoodFlow⟩, ?_⟩
  refine List.forall_mem_cons.2 ⟨⟨Try.f74, ⟨mf, false⟩, Try.func74, K_impl_isSpec⟩, ?_⟩
  refine List.forall_mem_cons.2 ⟨⟨Try.f45, ⟨mf, false⟩, Try.func45, K_impl_SpecFlow⟩, ?_⟩
  refine List.forall_mem_cons.2 ⟨⟨Try.f69, ⟨mf, false⟩, Try.func69, K_spec_l1In⟩, ?_⟩
  refine List.forall_mem_cons.2 ⟨⟨Try.f104, ⟨mf, false⟩, Try.func104, K_spec_l1Has⟩, ?_⟩
  refine List.forall_mem_cons.2 ⟨⟨Try.f105, ⟨mf, false⟩, Try.func105, K_spec_l1Rising⟩, ?_⟩
  refine List.forall_mem_cons.2 ⟨⟨Try.f70, ⟨mf, false⟩, Try.func70, K_spec_l13Task⟩, ?_⟩
  refine List.forall_mem_cons.2 ⟨⟨Try.f106, ⟨mf, false⟩, Try.func106, K_spec_l1Own⟩, ?_⟩
  refine List.forall_mem_cons.2 ⟨⟨Try.f131, ⟨mf, false⟩, Try.func131, K_spec_l1Set⟩, ?_⟩
  refine List.forall_mem_cons.2 ⟨⟨Try.f107, ⟨mf, false⟩, Try.func107, K_spec_l13Some⟩, ?_⟩
  refine List.forall_mem_cons.2 ⟨⟨Try.f79, ⟨mf, false⟩, Try.func79, K_spec_l13Region⟩, ?_⟩
  refine List.forall_mem_cons.2 ⟨⟨Try.f71, ⟨mf, false⟩, Try.func71, K_spec_l13Lay⟩, ?_⟩
  refine List.forall_mem_cons.2 ⟨⟨Try.f142, ⟨mf, false⟩, Try.func142, K_spec_l1Places⟩, ?_⟩
  refine List.forall_mem_cons.2 ⟨⟨Try.f132, ⟨mf, false⟩, Try.func132, K_spec_GoodNet⟩, ?_⟩
  refine List.forall_mem_cons.2 ⟨⟨Try.f133, ⟨mf, false⟩, Try.func133, K_spec_l3Forward⟩, ?_⟩
  refine List.forall_mem_cons.2 ⟨⟨Try.f134, ⟨mf, false⟩, Try.func134, K_spec_l3Back⟩, ?_⟩
  refine List.forall_mem_cons.2 ⟨⟨Try.f135, ⟨mf, false⟩, Try.func135, K_spec_l3Both⟩, ?_⟩
  refine List.forall_mem_cons.2 ⟨⟨Try.f108, ⟨mf, false⟩, Try.func108, K_spec_OnWay⟩, ?_⟩
  refine List.forall_mem_cons.2 ⟨⟨Try.f72, ⟨mf, false⟩, Try.func72, K_spec_GoodFlow⟩, ?_⟩
  refine List.forall_mem_cons.2 ⟨⟨Try.f16, ⟨mf, false⟩, Try.func16, K_spec_GoodSpec⟩, ?_⟩
  refine List.forall_mem_cons.2 ⟨⟨Try.f46, ⟨mf, false⟩, Try.func46, K_spec_SpecFlow⟩, ?_⟩
  refine List.forall_mem_cons.2 ⟨⟨Try.f39, ⟨mf, false⟩, Try.func39, K_impl_MovesOf⟩, ?_⟩
  refine List.forall_mem_cons.2 ⟨⟨Try.f38, ⟨mf, false⟩, Try.func38, K_spec_MovesOf⟩, ?_⟩
  refine List.forall_mem_cons.2 ⟨⟨Try.f50, ⟨mf, false⟩, Try.func50, K_laws_sameInts⟩, ?_⟩
  refine List.forall_mem_cons.2 ⟨⟨Try.f92, ⟨mf, false⟩, Try.func92, K_laws_sameNet⟩, ?_⟩
  refine List.forall_mem_cons.2 ⟨⟨Try.f47, ⟨mf, false⟩, Try.func47, K_laws_sameFlow⟩, ?_⟩
  refine List.forall_mem_cons.2 ⟨⟨Try.f48, ⟨mf, false⟩, Try.func48, K_laws_sameMoves⟩, ?_⟩
  refine List.forall_mem_cons.2 ⟨⟨Try.f18, ⟨mf, false⟩, Try.func18, K_impl_GoodSpec⟩, ?_⟩
  refine List.forall_mem_cons.2 ⟨⟨Try.f77, ⟨mf, false⟩, Try.func77, K_slices_Index_sl_impl_Move_impl_Move⟩, ?_⟩
  refine List.forall_mem_cons.2 ⟨⟨Try.f22, ⟨mf, false⟩, Try.func22, K_impl_MoveNo⟩, ?_⟩
  refine List.forall_mem_cons.2 ⟨⟨Try.f24, ⟨mf, false⟩, Try.func24, K_impl_RegionOf⟩, ?_⟩
  refine List.forall_mem_cons.2 ⟨⟨Try.f49, ⟨mf, false⟩, Try.func49, K_laws_has⟩, ?_⟩
  refine List.forall_mem_cons.2 ⟨⟨Try.f51, ⟨mf, false⟩, Try.func51, K_spec_DrawMoveNo⟩, ?_⟩
  refine List.forall_mem_cons.2 ⟨⟨Try.f76, ⟨mf, false⟩, Try.func76, K_spec_l13No⟩, ?_⟩
  refine List.forall_mem_cons.2 ⟨⟨Try.f20, ⟨mf, false⟩, Try.func20, K_spec_MoveNo⟩, ?_⟩
  refine List.forall_mem_cons.2 ⟨⟨Try.f52, ⟨mf, false⟩, Try.func52, K_spec_DrawRegionOf⟩, ?_⟩
  refine List.forall_mem_cons.2 ⟨⟨Try.f23, ⟨mf, false⟩, Try.func23, K_spec_RegionOf⟩, ?_⟩
  refine List.forall_mem_cons.2 ⟨⟨Try.f9, ⟨mf, false⟩, Try.func9, K_laws_FnLaidOut⟩, ?_⟩
  exact fun _ h => (by cases h)
theorem hF (f : FuncId) (i : IFun) (h : F f = some i) : ∃ (fn : Func) (m : Md), Try.prog.funcs[f]? = some fn ∧ compile Try.prog m fn = some i := by
  unfold F at h
  simp only [Option.map_eq_some_iff] at h
  obtain ⟨p, hp, rfl⟩ := h
  have h1 := List.mem_of_find?_eq_some hp
  have h2 := List.find?_some hp
  have h3 : p.1 = f := by simpa using h2
  subst h3
  exact tblOk p h1
theorem extsOk : ∀ p ∈ exts, ExtOk Try.prog p.1 p.2 := by
  unfold exts
  refine List.forall_mem_cons.2 ⟨extClone_ok (mf := ⟨mf, false⟩) (Checked.mixed Try.checked) Try.func113 (show compile Try.prog ⟨mf, false⟩ Try.f113 = some (irClone t_int true 1) by kernel_rfl), ?_⟩
  exact fun _ h => (by cases h)
theorem hE (f : FuncId) (e : List PV → Option PV) (h : ext f = some e) : ExtOk Try.prog f e := by
  unfold ext at h
  simp only [Option.map_eq_some_iff] at h
  obtain ⟨p, hp, rfl⟩ := h
  have h1 := List.mem_of_find?_eq_some hp
  have h2 := List.find?_some hp
  have h3 : p.1 = f := by simpa using h2
  subst h3
  exact extsOk p h1
end Go.Proofs.Ytblolnhajgmbdaa.Pi
