/- The forms are those of the program. No condition. -/
import Derived.Test.YtoimodnlefadhaaGreatChecked
import Derived.Test.YtoimodnlefadhaaGreatIrFnCaseSteps
import Derived.Test.YtoimodnlefadhaaGreatPiTop
import Derived.Test.YtoimodnlefadhaaGreatPiDz
import Derived.KernelRfl
namespace Go.Proofs.YtoimodnlefadhaaGreat.Pi
open Go
set_option linter.all false
def mf (f : FuncId) : Bool := [50, 25, 70, 44, 45, 46, 24, 47, 22, 49, 23, 62, 39].contains f
theorem K_laws_big : compile Tryz.prog ⟨mf, false⟩ Tryz.f4 = some ir_laws_big := by kernel_rfl
theorem K_spec_l1Cur_next : compile Tryz.prog ⟨mf, false⟩ Tryz.f50 = some ir_spec_l1Cur_next := by kernel_rfl
theorem K_spec_l1Cur_pick : compile Tryz.prog ⟨mf, false⟩ Tryz.f25 = some ir_spec_l1Cur_pick := by kernel_rfl
theorem K_spec_l1Cur_taskOf : compile Tryz.prog ⟨mf, false⟩ Tryz.f70 = some ir_spec_l1Cur_taskOf := by kernel_rfl
theorem K_spec_l1Cur_soundSpec : compile Tryz.prog ⟨mf, false⟩ Tryz.f44 = some ir_spec_l1Cur_soundSpec := by kernel_rfl
theorem K_spec_l1Put : compile Tryz.prog ⟨mf, false⟩ Tryz.f45 = some ir_spec_l1Put := by kernel_rfl
theorem K_spec_l1Cur_someOf : compile Tryz.prog ⟨mf, false⟩ Tryz.f46 = some ir_spec_l1Cur_someOf := by kernel_rfl
theorem K_spec_l1Cur_one : compile Tryz.prog ⟨mf, false⟩ Tryz.f24 = some ir_spec_l1Cur_one := by kernel_rfl
theorem K_spec_l1Cur_among : compile Tryz.prog ⟨mf, false⟩ Tryz.f47 = some ir_spec_l1Cur_among := by kernel_rfl
theorem K_spec_l1Cur_spec : compile Tryz.prog ⟨mf, false⟩ Tryz.f22 = some ir_spec_l1Cur_spec := by kernel_rfl
theorem K_spec_l1In : compile Tryz.prog ⟨mf, false⟩ Tryz.f79 = some ir_spec_l1In := by kernel_rfl
theorem K_spec_l1Has : compile Tryz.prog ⟨mf, false⟩ Tryz.f98 = some ir_spec_l1Has := by kernel_rfl
theorem K_spec_l1Rising : compile Tryz.prog ⟨mf, false⟩ Tryz.f99 = some ir_spec_l1Rising := by kernel_rfl
theorem K_spec_l13Task : compile Tryz.prog ⟨mf, false⟩ Tryz.f80 = some ir_spec_l13Task := by kernel_rfl
theorem K_spec_l1Own : compile Tryz.prog ⟨mf, false⟩ Tryz.f83 = some ir_spec_l1Own := by kernel_rfl
theorem K_spec_l1Set : compile Tryz.prog ⟨mf, false⟩ Tryz.f103 = some ir_spec_l1Set := by kernel_rfl
theorem K_spec_l13Some : compile Tryz.prog ⟨mf, false⟩ Tryz.f84 = some ir_spec_l13Some := by kernel_rfl
theorem K_spec_l13Region : compile Tryz.prog ⟨mf, false⟩ Tryz.f85 = some ir_spec_l13Region := by kernel_rfl
theorem K_spec_l13Lay : compile Tryz.prog ⟨mf, false⟩ Tryz.f60 = some ir_spec_l13Lay := by kernel_rfl
theorem K_spec_l1Places : compile Tryz.prog ⟨mf, false⟩ Tryz.f101 = some ir_spec_l1Places := by kernel_rfl
theorem K_spec_GoodNet : compile Tryz.prog ⟨mf, false⟩ Tryz.f104 = some ir_spec_GoodNet := by kernel_rfl
theorem K_spec_l3Forward : compile Tryz.prog ⟨mf, false⟩ Tryz.f107 = some ir_spec_l3Forward := by kernel_rfl
theorem K_spec_l3Back : compile Tryz.prog ⟨mf, false⟩ Tryz.f108 = some ir_spec_l3Back := by kernel_rfl
theorem K_spec_l3Both : compile Tryz.prog ⟨mf, false⟩ Tryz.f109 = some ir_spec_l3Both := by kernel_rfl
theorem K_spec_OnWay : compile Tryz.prog ⟨mf, false⟩ Tryz.f100 = some ir_spec_OnWay := by kernel_rfl
theorem K_spec_GoodFlow : compile Tryz.prog ⟨mf, false⟩ Tryz.f81 = some ir_spec_GoodFlow := by kernel_rfl
theorem K_spec_GoodSpec : compile Tryz.prog ⟨mf, false⟩ Tryz.f57 = some ir_spec_GoodSpec := by kernel_rfl
theorem K_spec_l3One : compile Tryz.prog ⟨mf, false⟩ Tryz.f94 = some ir_spec_l3One := by kernel_rfl
theorem K_spec_NewCase : compile Tryz.prog ⟨mf, false⟩ Tryz.f71 = some ir_spec_NewCase := by kernel_rfl
theorem K_spec_l2Can : compile Tryz.prog ⟨mf, false⟩ Tryz.f87 = some ir_spec_l2Can := by kernel_rfl
theorem K_spec_l2Enabled : compile Tryz.prog ⟨mf, false⟩ Tryz.f64 = some ir_spec_l2Enabled := by kernel_rfl
theorem K_spec_l14Moves : compile Tryz.prog ⟨mf, false⟩ Tryz.f32 = some ir_spec_l14Moves := by kernel_rfl
theorem K_spec_l13No : compile Tryz.prog ⟨mf, false⟩ Tryz.f59 = some ir_spec_l13No := by kernel_rfl
theorem K_spec_l1All : compile Tryz.prog ⟨mf, false⟩ Tryz.f102 = some ir_spec_l1All := by kernel_rfl
theorem K_spec_GoodMark : compile Tryz.prog ⟨mf, false⟩ Tryz.f82 = some ir_spec_GoodMark := by kernel_rfl
theorem K_spec_l2Marked : compile Tryz.prog ⟨mf, false⟩ Tryz.f86 = some ir_spec_l2Marked := by kernel_rfl
theorem K_spec_l2Fire : compile Tryz.prog ⟨mf, false⟩ Tryz.f88 = some ir_spec_l2Fire := by kernel_rfl
theorem K_spec_Fire : compile Tryz.prog ⟨mf, false⟩ Tryz.f61 = some ir_spec_Fire := by kernel_rfl
theorem K_spec_l14Step : compile Tryz.prog ⟨mf, false⟩ Tryz.f30 = some ir_spec_l14Step := by kernel_rfl
theorem K_spec_l1Cur_moves : compile Tryz.prog ⟨mf, false⟩ Tryz.f49 = some ir_spec_l1Cur_moves := by kernel_rfl
theorem K_spec_l14Own : compile Tryz.prog ⟨mf, false⟩ Tryz.f72 = some ir_spec_l14Own := by kernel_rfl
theorem K_spec_PlayCase : compile Tryz.prog ⟨mf, false⟩ Tryz.f48 = some ir_spec_PlayCase := by kernel_rfl
theorem K_spec_l1Cur_caseOf : compile Tryz.prog ⟨mf, false⟩ Tryz.f23 = some ir_spec_l1Cur_caseOf := by kernel_rfl
theorem K_spec_l14Case : compile Tryz.prog ⟨mf, false⟩ Tryz.f58 = some ir_spec_l14Case := by kernel_rfl
theorem K_spec_GoodCase : compile Tryz.prog ⟨mf, false⟩ Tryz.f29 = some ir_spec_GoodCase := by kernel_rfl
theorem K_spec_MovesIn : compile Tryz.prog ⟨mf, false⟩ Tryz.f9 = some ir_spec_MovesIn := by kernel_rfl
theorem K_spec_DrawStepCase : compile Tryz.prog ⟨mf, false⟩ Tryz.f5 = some ir_spec_DrawStepCase := by kernel_rfl
theorem K_impl_within : compile Tryz.prog ⟨mf, false⟩ Tryz.f51 = some ir_impl_within := by kernel_rfl
theorem K_impl_increasing : compile Tryz.prog ⟨mf, false⟩ Tryz.f74 = some ir_impl_increasing := by kernel_rfl
theorem K_impl_allWithin : compile Tryz.prog ⟨mf, false⟩ Tryz.f68 = some ir_impl_allWithin := by kernel_rfl
theorem K_impl_areConds : compile Tryz.prog ⟨mf, false⟩ Tryz.f73 = some ir_impl_areConds := by kernel_rfl
theorem K_slices_Index_sl_int_int : compile Tryz.prog ⟨mf, false⟩ Tryz.f95 = some ir_slices_Index_sl_int_int := by kernel_rfl
theorem K_slices_Contains_sl_int_int : compile Tryz.prog ⟨mf, false⟩ Tryz.f75 = some ir_slices_Contains_sl_int_int := by kernel_rfl
theorem K_impl_isTask : compile Tryz.prog ⟨mf, false⟩ Tryz.f52 = some ir_impl_isTask := by kernel_rfl
theorem K_impl_movesOf : compile Tryz.prog ⟨mf, false⟩ Tryz.f35 = some ir_impl_movesOf := by kernel_rfl
theorem K_impl_setOf : compile Tryz.prog ⟨mf, false⟩ Tryz.f77 = some ir_impl_setOf := by kernel_rfl
theorem K_impl_regionOf : compile Tryz.prog ⟨mf, false⟩ Tryz.f78 = some ir_impl_regionOf := by kernel_rfl
theorem K_impl_transOf : compile Tryz.prog ⟨mf, false⟩ Tryz.f56 = some ir_impl_transOf := by kernel_rfl
theorem K_impl_specFlow : compile Tryz.prog ⟨mf, false⟩ Tryz.f33 = some ir_impl_specFlow := by kernel_rfl
theorem K_impl_arePlaces : compile Tryz.prog ⟨mf, false⟩ Tryz.f92 = some ir_impl_arePlaces := by kernel_rfl
theorem K_impl_GoodNet_1 : compile Tryz.prog ⟨mf, false⟩ Tryz.f91 = some ir_impl_GoodNet_1 := by kernel_rfl
theorem K_slices_IndexFunc_sl_impl_Trans_impl_Trans : compile Tryz.prog ⟨mf, false⟩ Tryz.f105 = some ir_slices_IndexFunc_sl_impl_Trans_impl_Trans := by kernel_rfl
theorem K_slices_ContainsFunc_sl_impl_Trans_impl_Trans : compile Tryz.prog ⟨mf, false⟩ Tryz.f90 = some ir_slices_ContainsFunc_sl_impl_Trans_impl_Trans := by kernel_rfl
theorem K_impl_GoodNet : compile Tryz.prog ⟨mf, false⟩ Tryz.f65 = some ir_impl_GoodNet := by kernel_rfl
theorem K_impl_reachedFrom_1 : compile Tryz.prog ⟨mf, false⟩ Tryz.f106 = some ir_impl_reachedFrom_1 := by kernel_rfl
theorem K_slices_IndexFunc_sl_int_int : compile Tryz.prog ⟨mf, false⟩ Tryz.f93 = some ir_slices_IndexFunc_sl_int_int := by kernel_rfl
theorem K_slices_ContainsFunc_sl_int_int : compile Tryz.prog ⟨mf, false⟩ Tryz.f66 = some ir_slices_ContainsFunc_sl_int_int := by kernel_rfl
theorem K_impl_reachedFrom : compile Tryz.prog ⟨mf, false⟩ Tryz.f96 = some ir_impl_reachedFrom := by kernel_rfl
theorem K_impl_bothOf : compile Tryz.prog ⟨mf, false⟩ Tryz.f97 = some ir_impl_bothOf := by kernel_rfl
theorem K_impl_onWay : compile Tryz.prog ⟨mf, false⟩ Tryz.f76 = some ir_impl_onWay := by kernel_rfl
theorem K_impl_GoodFlow : compile Tryz.prog ⟨mf, false⟩ Tryz.f53 = some ir_impl_GoodFlow := by kernel_rfl
theorem K_impl_isSpec : compile Tryz.prog ⟨mf, false⟩ Tryz.f26 = some ir_impl_isSpec := by kernel_rfl
theorem K_impl_GoodMark : compile Tryz.prog ⟨mf, false⟩ Tryz.f54 = some ir_impl_GoodMark := by kernel_rfl
theorem K_impl_isCase : compile Tryz.prog ⟨mf, false⟩ Tryz.f27 = some ir_impl_isCase := by kernel_rfl
theorem K_impl_isEnabled_1 : compile Tryz.prog ⟨mf, false⟩ Tryz.f67 = some ir_impl_isEnabled_1 := by kernel_rfl
theorem K_impl_isEnabled : compile Tryz.prog ⟨mf, false⟩ Tryz.f38 = some ir_impl_isEnabled := by kernel_rfl
theorem K_impl_movesIn_1 : compile Tryz.prog ⟨mf, false⟩ Tryz.f63 = some ir_impl_movesIn_1 := by kernel_rfl
theorem K_slices_IndexFunc_sl_impl_Move_impl_Move : compile Tryz.prog ⟨mf, false⟩ Tryz.f89 = some ir_slices_IndexFunc_sl_impl_Move_impl_Move := by kernel_rfl
theorem K_slices_DeleteFunc_sl_impl_Move_impl_Move : compile Tryz.prog ⟨mf, false⟩ Tryz.f62 = some ir_slices_DeleteFunc_sl_impl_Move_impl_Move := by kernel_rfl
theorem K_impl_movesIn : compile Tryz.prog ⟨mf, false⟩ Tryz.f31 = some ir_impl_movesIn := by kernel_rfl
theorem K_slices_Index_sl_impl_Move_impl_Move : compile Tryz.prog ⟨mf, false⟩ Tryz.f34 = some ir_slices_Index_sl_impl_Move_impl_Move := by kernel_rfl
theorem K_slices_Contains_sl_impl_Move_impl_Move : compile Tryz.prog ⟨mf, false⟩ Tryz.f55 = some ir_slices_Contains_sl_impl_Move_impl_Move := by kernel_rfl
theorem K_impl_fired : compile Tryz.prog ⟨mf, false⟩ Tryz.f40 = some ir_impl_fired := by kernel_rfl
theorem K_impl_checkedMark : compile Tryz.prog ⟨mf, false⟩ Tryz.f39 = some ir_impl_checkedMark := by kernel_rfl
theorem K_impl_stepCase : compile Tryz.prog ⟨mf, false⟩ Tryz.f28 = some ir_impl_stepCase := by kernel_rfl
theorem K_impl_StepCase : compile Tryz.prog ⟨mf, false⟩ Tryz.f6 = some ir_impl_StepCase := by kernel_rfl
theorem K_spec_StepCase : compile Tryz.prog ⟨mf, false⟩ Tryz.f7 = some ir_spec_StepCase := by kernel_rfl
theorem K_impl_MovesIn : compile Tryz.prog ⟨mf, false⟩ Tryz.f8 = some ir_impl_MovesIn := by kernel_rfl
theorem K_laws_sameInts : compile Tryz.prog ⟨mf, false⟩ Tryz.f16 = some ir_laws_sameInts := by kernel_rfl
theorem K_laws_sameCase : compile Tryz.prog ⟨mf, false⟩ Tryz.f10 = some ir_laws_sameCase := by kernel_rfl
theorem K_laws_sameMoves : compile Tryz.prog ⟨mf, false⟩ Tryz.f11 = some ir_laws_sameMoves := by kernel_rfl
theorem K_impl_GoodCase : compile Tryz.prog ⟨mf, false⟩ Tryz.f12 = some ir_impl_GoodCase := by kernel_rfl
theorem K_impl_SpecFlow : compile Tryz.prog ⟨mf, false⟩ Tryz.f13 = some ir_impl_SpecFlow := by kernel_rfl
theorem K_impl_MoveNo : compile Tryz.prog ⟨mf, false⟩ Tryz.f14 = some ir_impl_MoveNo := by kernel_rfl
theorem K_impl_isMarked : compile Tryz.prog ⟨mf, false⟩ Tryz.f36 = some ir_impl_isMarked := by kernel_rfl
theorem K_impl_isTrans : compile Tryz.prog ⟨mf, false⟩ Tryz.f37 = some ir_impl_isTrans := by kernel_rfl
theorem K_impl_Fire : compile Tryz.prog ⟨mf, false⟩ Tryz.f15 = some ir_impl_Fire := by kernel_rfl
theorem K_spec_DrawGoodCase : compile Tryz.prog ⟨mf, false⟩ Tryz.f41 = some ir_spec_DrawGoodCase := by kernel_rfl
theorem K_spec_DrawCancelCase : compile Tryz.prog ⟨mf, false⟩ Tryz.f17 = some ir_spec_DrawCancelCase := by kernel_rfl
theorem K_impl_CancelCase : compile Tryz.prog ⟨mf, false⟩ Tryz.f18 = some ir_impl_CancelCase := by kernel_rfl
theorem K_spec_l14Cut : compile Tryz.prog ⟨mf, false⟩ Tryz.f42 = some ir_spec_l14Cut := by kernel_rfl
theorem K_spec_CancelCase : compile Tryz.prog ⟨mf, false⟩ Tryz.f19 = some ir_spec_CancelCase := by kernel_rfl
theorem K_impl_BusyIn : compile Tryz.prog ⟨mf, false⟩ Tryz.f20 = some ir_impl_BusyIn := by kernel_rfl
theorem K_spec_l14Busy : compile Tryz.prog ⟨mf, false⟩ Tryz.f43 = some ir_spec_l14Busy := by kernel_rfl
theorem K_spec_BusyIn : compile Tryz.prog ⟨mf, false⟩ Tryz.f21 = some ir_spec_BusyIn := by kernel_rfl
theorem K_laws_FnCaseSteps : compile Tryz.prog ⟨mf, false⟩ Tryz.f3 = some ir_laws_FnCaseSteps := by kernel_rfl
theorem tblOk : ∀ p ∈ tbl, ∃ (fn : Func) (m : Md), Tryz.prog.funcs[p.1]? = some fn ∧ compile Tryz.prog m fn = some p.2 := by
  unfold tbl
  refine List.forall_mem_cons.2 ⟨⟨Tryz.f4, ⟨mf, false⟩, Tryz.func4, K_laws_big⟩, ?_⟩
  refine List.forall_mem_cons.2 ⟨⟨Tryz.f50, ⟨mf, false⟩, Tryz.func50, K_spec_l1Cur_next⟩, ?_⟩
  refine List.forall_mem_cons.2 ⟨⟨Tryz.f25, ⟨mf, false⟩, Tryz.func25, K_spec_l1Cur_pick⟩, ?_⟩
  refine List.forall_mem_cons.2 ⟨⟨Tryz.f70, ⟨mf, false⟩, Tryz.func70, K_spec_l1Cur_taskOf⟩, ?_⟩
  refine List.forall_mem_cons.2 ⟨⟨Tryz.f44, ⟨mf, false⟩, Tryz.func44, K_spec_l1Cur_soundSpec⟩, ?_⟩
  refine List.forall_mem_cons.2 ⟨⟨Tryz.f45, ⟨mf, false⟩, Tryz.func45, K_spec_l1Put⟩, ?_⟩
  refine List.forall_mem_cons.2 ⟨⟨Tryz.f46, ⟨mf, false⟩, Tryz.func46, K_spec_l1Cur_someOf⟩, ?_⟩
  refine List.forall_mem_cons.2 ⟨⟨Tryz.f24, ⟨mf, false⟩, Tryz.func24, K_spec_l1Cur_one⟩, ?_⟩
  refine List.forall_mem_cons.2 ⟨⟨Tryz.f47, ⟨mf, false⟩, Tryz.func47, K_spec_l1Cur_among⟩, ?_⟩
  refine List.forall_mem_cons.2 ⟨⟨Tryz.f22, ⟨mf, false⟩, Tryz.func22, K_spec_l1Cur_spec⟩, ?_⟩
  refine List.forall_mem_cons.2 ⟨⟨Tryz.f79, ⟨mf, false⟩, Tryz.func79, K_spec_l1In⟩, ?_⟩
  refine List.forall_mem_cons.2 ⟨⟨Tryz.f98, ⟨mf, false⟩, Tryz.func98, K_spec_l1Has⟩, ?_⟩
  refine List.forall_mem_cons.2 ⟨⟨Tryz.f99, ⟨mf, false⟩, Tryz.func99, K_spec_l1Rising⟩, ?_⟩
  refine List.forall_mem_cons.2 ⟨⟨Tryz.f80, ⟨mf, false⟩, Tryz.func80, K_spec_l13Task⟩, ?_⟩
  refine List.forall_mem_cons.2 ⟨⟨Tryz.f83, ⟨mf, false⟩, Tryz.func83, K_spec_l1Own⟩, ?_⟩
  refine List.forall_mem_cons.2 ⟨⟨Tryz.f103, ⟨mf, false⟩, Tryz.func103, K_spec_l1Set⟩, ?_⟩
  refine List.forall_mem_cons.2 ⟨⟨Tryz.f84, ⟨mf, false⟩, Tryz.func84, K_spec_l13Some⟩, ?_⟩
  refine List.forall_mem_cons.2 ⟨⟨Tryz.f85, ⟨mf, false⟩, Tryz.func85, K_spec_l13Region⟩, ?_⟩
  refine List.forall_mem_cons.2 ⟨⟨Tryz.f60, ⟨mf, false⟩, Tryz.func60, K_spec_l13Lay⟩, ?_⟩
  refine List.forall_mem_cons.2 ⟨⟨Tryz.f101, ⟨mf, false⟩, Tryz.func101, K_spec_l1Places⟩, ?_⟩
  refine List.forall_mem_cons.2 ⟨⟨Tryz.f104, ⟨mf, false⟩, Tryz.func104, K_spec_GoodNet⟩, ?_⟩
  refine List.forall_mem_cons.2 ⟨⟨Tryz.f107, ⟨mf, false⟩, Tryz.func107, K_spec_l3Forward⟩, ?_⟩
  refine List.forall_mem_cons.2 ⟨⟨Tryz.f108, ⟨mf, false⟩, Tryz.func108, K_spec_l3Back⟩, ?_⟩
  refine List.forall_mem_cons.2 ⟨⟨Tryz.f109, ⟨mf, false⟩, Tryz.func109, K_spec_l3Both⟩, ?_⟩
  refine List.forall_mem_cons.2 ⟨⟨Tryz.f100, ⟨mf, false⟩, Tryz.func100, K_spec_OnWay⟩, ?_⟩
  refine List.forall_mem_cons.2 ⟨⟨Tryz.f81, ⟨mf, false⟩, Tryz.func81, K_spec_GoodFlow⟩, ?_⟩
  refine List.forall_mem_cons.2 ⟨⟨Tryz.f57, ⟨mf, false⟩, Tryz.func57, K_spec_GoodSpec⟩, ?_⟩
  refine List.forall_mem_cons.2 ⟨⟨Tryz.f94, ⟨mf, false⟩, Tryz.func94, K_spec_l3One⟩, ?_⟩
  refine List.forall_mem_cons.2 ⟨⟨Tryz.f71, ⟨mf, false⟩, Tryz.func71, K_spec_NewCase⟩, ?_⟩
  refine List.forall_mem_cons.2 ⟨⟨Tryz.f87, ⟨mf, false⟩, Tryz.func87, K_spec_l2Can⟩, ?_⟩
  refine List.forall_mem_cons.2 ⟨⟨Tryz.f64, ⟨mf, false⟩, Tryz.func64, K_spec_l2Enabled⟩, ?_⟩
  refine List.forall_mem_cons.2 ⟨⟨Tryz.f32, ⟨mf, false⟩, Tryz.func32, K_spec_l14Moves⟩, ?_⟩
  refine List.forall_mem_cons.2 ⟨⟨Tryz.f59, ⟨mf, false⟩, Tryz.func59, K_spec_l13No⟩, ?_⟩
  refine List.forall_mem_cons.2 ⟨⟨Tryz.f102, ⟨mf, false⟩, Tryz.func102, K_spec_l1All⟩, ?_⟩
  refine List.forall_mem_cons.2 ⟨⟨Tryz.f82, ⟨mf, false⟩, Tryz.func82, K_spec_GoodMark⟩, ?_⟩
  refine List.forall_mem_cons.2 ⟨⟨Tryz.f86, ⟨mf, false⟩, Tryz.func86, K_spec_l2Marked⟩, ?_⟩
  refine List.forall_mem_cons.2 ⟨⟨Tryz.f88, ⟨mf, false⟩, Tryz.func88, K_spec_l2Fire⟩, ?_⟩
  refine List.forall_mem_cons.2 ⟨⟨Tryz.f61, ⟨mf, false⟩, Tryz.func61, K_spec_Fire⟩, ?_⟩
  refine List.forall_mem_cons.2 ⟨⟨Tryz.f30, ⟨mf, false⟩, Tryz.func30, K_spec_l14Step⟩, ?_⟩
  refine List.forall_mem_cons.2 ⟨⟨Tryz.f49, ⟨mf, false⟩, Tryz.func49, K_spec_l1Cur_moves⟩, ?_⟩
  refine List.forall_mem_cons.2 ⟨⟨Tryz.f72, ⟨mf, false⟩, Tryz.func72, K_spec_l14Own⟩, ?_⟩
  refine List.forall_mem_cons.2 ⟨⟨Tryz.f48, ⟨mf, false⟩, Tryz.func48, K_spec_PlayCase⟩, ?_⟩
  refine List.forall_mem_cons.2 ⟨⟨Tryz.f23, ⟨mf, false⟩, Tryz.func23, K_spec_l1Cur_caseOf⟩, ?_⟩
  refine List.forall_mem_cons.2 ⟨⟨Tryz.f58, ⟨mf, false⟩, Tryz.func58, K_spec_l14Case⟩, ?_⟩
  refine List.forall_mem_cons.2 ⟨⟨Tryz.f29, ⟨mf, false⟩, Tryz.func29, K_spec_GoodCase⟩, ?_⟩
  refine List.forall_mem_cons.2 ⟨⟨Tryz.f9, ⟨mf, false⟩, Tryz.func9, K_spec_MovesIn⟩, ?_⟩
  refine List.forall_mem_cons.2 ⟨⟨Tryz.f5, ⟨mf, false⟩, Tryz.func5, K_spec_DrawStepCase⟩, ?_⟩
  refine List.forall_mem_cons.2 ⟨⟨Tryz.f51, ⟨mf, false⟩, Tryz.func51, K_impl_within⟩, ?_⟩
  refine List.forall_mem_cons.2 ⟨⟨Tryz.f74, ⟨mf, false⟩, Tryz.func74, K_impl_increasing⟩, ?_⟩
  refine List.forall_mem_cons.2 ⟨⟨Tryz.f68, ⟨mf, false⟩, Tryz.func68, K_impl_allWithin⟩, ?_⟩
  refine List.forall_mem_cons.2 ⟨⟨Tryz.f73, ⟨mf, false⟩, Tryz.func73, K_impl_areConds⟩, ?_⟩
  refine List.forall_mem_cons.2 ⟨⟨Tryz.f95, ⟨mf, false⟩, Tryz.func95, K_slices_Index_sl_int_int⟩, ?_⟩
  refine List.forall_mem_cons.2 ⟨⟨Tryz.f75, ⟨mf, false⟩, Tryz.func75, K_slices_Contains_sl_int_int⟩, ?_⟩
  refine List.forall_mem_cons.2 ⟨⟨Tryz.f52, ⟨mf, false⟩, Tryz.func52, K_impl_isTask⟩, ?_⟩
  refine List.forall_mem_cons.2 ⟨⟨Tryz.f35, ⟨mf, false⟩, Tryz.func35, K_impl_movesOf⟩, ?_⟩
  refine List.forall_mem_cons.2 ⟨⟨Tryz.f77, ⟨mf, false⟩, Tryz.func77, K_impl_setOf⟩, ?_⟩
  refine List.forall_mem_cons.2 ⟨⟨Tryz.f78, ⟨mf, false⟩, Tryz.func78, K_impl_regionOf⟩, ?_⟩
  refine List.forall_mem_cons.2 ⟨⟨Tryz.f56, ⟨mf, false⟩, Tryz.func56, K_impl_transOf⟩, ?_⟩
  refine List.forall_mem_cons.2 ⟨⟨Tryz.f33, ⟨mf, false⟩, Tryz.func33, K_impl_specFlow⟩, ?_⟩
  refine List.forall_mem_cons.2 ⟨⟨Tryz.f92, ⟨mf, false⟩, Tryz.func92, K_impl_arePlaces⟩, ?_⟩
  refine List.forall_mem_cons.2 ⟨⟨Tryz.f91, ⟨mf, false⟩, Tryz.func91, K_impl_GoodNet_1⟩, ?_⟩
  refine List.forall_mem_cons.2 ⟨⟨Tryz.f105, ⟨mf, false⟩, Tryz.func105, K_slices_IndexFunc_sl_impl_Trans_impl_Trans⟩, ?_⟩
  refine List.forall_mem_cons.2 ⟨⟨Tryz.f90, ⟨mf, false⟩, Tryz.func90, K_slices_ContainsFunc_sl_impl_Trans_impl_Trans⟩, ?_⟩
  refine List.forall_mem_cons.2 ⟨⟨Tryz.f65, ⟨mf, false⟩, Tryz.func65, K_impl_GoodNet⟩, ?_⟩
  refine List.forall_mem_cons.2 ⟨⟨Tryz.f106, ⟨mf, false⟩, Tryz.func106, K_impl_reachedFrom_1⟩, ?_⟩
  refine List.forall_mem_cons.2 ⟨⟨Tryz.f93, ⟨mf, false⟩, Tryz.func93, K_slices_IndexFunc_sl_int_int⟩, ?_⟩
  refine List.forall_mem_cons.2 ⟨⟨Tryz.f66, ⟨mf, false⟩, Tryz.func66, K_slices_ContainsFunc_sl_int_int⟩, ?_⟩
  refine List.forall_mem_cons.2 ⟨⟨Tryz.f96, ⟨mf, false⟩, Tryz.func96, K_impl_reachedFrom⟩, ?_⟩
  refine List.forall_mem_cons.2 ⟨⟨Tryz.f97, ⟨mf, false⟩, Tryz.func97, K_impl_bothOf⟩, ?_⟩
  refine List.forall_mem_cons.2 ⟨⟨Tryz.f76, ⟨mf, false⟩, Tryz.func76, K_impl_onWay⟩, ?_⟩
  refine List.forall_mem_cons.2 ⟨⟨Tryz.f53, ⟨mf, false⟩, Tryz.func53, K_impl_GoodFlow⟩, ?_⟩
  refine List.forall_mem_cons.2 ⟨⟨Tryz.f26, ⟨mf, false⟩, Tryz.func26, K_impl_isSpec⟩, ?_⟩
  refine List.forall_mem_cons.2 ⟨⟨Tryz.f54, ⟨mf, false⟩, Tryz.func54, K_impl_GoodMark⟩, ?_⟩
  refine List.forall_mem_cons.2 ⟨⟨Tryz.f27, ⟨mf, false⟩, Tryz.func27, K_impl_isCase⟩, ?_⟩
  refine List.forall_mem_cons.2 ⟨⟨Tryz.f67, ⟨mf, false⟩, Tryz.func67, K_impl_isEnabled_1⟩, ?_⟩
  refine List.forall_mem_cons.2 ⟨⟨Tryz.f38, ⟨mf, false⟩, Tryz.func38, K_impl_isEnabled⟩, ?_⟩
  refine List.forall_mem_cons.2 ⟨⟨Tryz.f63, ⟨mf, false⟩, Tryz.func63, K_impl_movesIn_1⟩, ?_⟩
  refine List.forall_mem_cons.2 ⟨⟨Tryz.f89, ⟨mf, false⟩, Tryz.func89, K_slices_IndexFunc_sl_impl_Move_impl_Move⟩, ?_⟩
  refine List.forall_mem_cons.2 ⟨⟨Tryz.f62, ⟨mf, false⟩, Tryz.func62, K_slices_DeleteFunc_sl_impl_Move_impl_Move⟩, ?_⟩
  refine List.forall_mem_cons.2 ⟨⟨Tryz.f31, ⟨mf, false⟩, Tryz.func31, K_impl_movesIn⟩, ?_⟩
  refine List.forall_mem_cons.2 ⟨⟨Tryz.f34, ⟨mf, false⟩, Tryz.func34, K_slices_Index_sl_impl_Move_impl_Move⟩, ?_⟩
  refine List.forall_mem_cons.2 ⟨⟨Tryz.f55, ⟨mf, false⟩, Tryz.func55, K_slices_Contains_sl_impl_Move_impl_Move⟩, ?_⟩
  refine List.forall_mem_cons.2 ⟨⟨Tryz.f40, ⟨mf, false⟩, Tryz.func40, K_impl_fired⟩, ?_⟩
  refine List.forall_mem_cons.2 ⟨⟨Tryz.f39, ⟨mf, false⟩, Tryz.func39, K_impl_checkedMark⟩, ?_⟩
  refine List.forall_mem_cons.2 ⟨⟨Tryz.f28, ⟨mf, false⟩, Tryz.func28, K_impl_stepCase⟩, ?_⟩
  refine List.forall_mem_cons.2 ⟨⟨Tryz.f6, ⟨mf, false⟩, Tryz.func6, K_impl_StepCase⟩, ?_⟩
  refine List.forall_mem_cons.2 ⟨⟨Tryz.f7, ⟨mf, false⟩, Tryz.func7, K_spec_StepCase⟩, ?_⟩
  refine List.forall_mem_cons.2 ⟨⟨Tryz.f8, ⟨mf, false⟩, Tryz.func8, K_impl_MovesIn⟩, ?_⟩
  refine List.forall_mem_cons.2 ⟨⟨Tryz.f16, ⟨mf, false⟩, Tryz.func16, K_laws_sameInts⟩, ?_⟩
  refine List.forall_mem_cons.2 ⟨⟨Tryz.f10, ⟨mf, false⟩, Tryz.func10, K_laws_sameCase⟩, ?_⟩
  refine List.forall_mem_cons.2 ⟨⟨Tryz.f11, ⟨mf, false⟩, Tryz.func11, K_laws_sameMoves⟩, ?_⟩
  refine List.forall_mem_cons.2 ⟨⟨Tryz.f12, ⟨mf, false⟩, Tryz.func12, K_impl_GoodCase⟩, ?_⟩
  refine List.forall_mem_cons.2 ⟨⟨Tryz.f13, ⟨mf, false⟩, Tryz.func13, K_impl_SpecFlow⟩, ?_⟩
  refine List.forall_mem_cons.2 ⟨⟨Tryz.f14, ⟨mf, false⟩, Tryz.func14, K_impl_MoveNo⟩, ?_⟩
  refine List.forall_mem_cons.2 ⟨⟨Tryz.f36, ⟨mf, false⟩, Tryz.func36, K_impl_isMarked⟩, ?_⟩
  refine List.forall_mem_cons.2 ⟨⟨Tryz.f37, ⟨mf, false⟩, Tryz.func37, K_impl_isTrans⟩, ?_⟩
  refine List.forall_mem_cons.2 ⟨⟨Tryz.f15, ⟨mf, false⟩, Tryz.func15, K_impl_Fire⟩, ?_⟩
  refine List.forall_mem_cons.2 ⟨⟨Tryz.f41, ⟨mf, false⟩, Tryz.func41, K_spec_DrawGoodCase⟩, ?_⟩
  refine List.forall_mem_cons.2 ⟨⟨Tryz.f17, ⟨mf, false⟩, Tryz.func17, K_spec_DrawCancelCase⟩, ?_⟩
  refine List.forall_mem_cons.2 ⟨⟨Tryz.f18, ⟨mf, false⟩, Tryz.func18, K_impl_CancelCase⟩, ?_⟩
  refine List.forall_mem_cons.2 ⟨⟨Tryz.f42, ⟨mf, false⟩, Tryz.func42, K_spec_l14Cut⟩, ?_⟩
  refine List.forall_mem_cons.2 ⟨⟨Tryz.f19, ⟨mf, false⟩, Tryz.func19, K_spec_CancelCase⟩, ?_⟩
  refine List.forall_mem_cons.2 ⟨⟨Tryz.f20, ⟨mf, false⟩, Tryz.func20, K_impl_BusyIn⟩, ?_⟩
  refine List.forall_mem_cons.2 ⟨⟨Tryz.f43, ⟨mf, false⟩, Tryz.func43, K_spec_l14Busy⟩, ?_⟩
  refine List.forall_mem_cons.2 ⟨⟨Tryz.f21, ⟨mf, false⟩, Tryz.func21, K_spec_BusyIn⟩, ?_⟩
  refine List.forall_mem_cons.2 ⟨⟨Tryz.f3, ⟨mf, false⟩, Tryz.func3, K_laws_FnCaseSteps⟩, ?_⟩
  exact fun _ h => (by cases h)
theorem hF (f : FuncId) (i : IFun) (h : F f = some i) : ∃ (fn : Func) (m : Md), Tryz.prog.funcs[f]? = some fn ∧ compile Tryz.prog m fn = some i := by
  unfold F at h
  simp only [Option.map_eq_some_iff] at h
  obtain ⟨p, hp, rfl⟩ := h
  have h1 := List.mem_of_find?_eq_some hp
  have h2 := List.find?_some hp
  have h3 : p.1 = f := by simpa using h2
  subst h3
  exact tblOk p h1
theorem extsOk : ∀ p ∈ exts, ExtOk Tryz.prog p.1 p.2 := by
  unfold exts
  refine List.forall_mem_cons.2 ⟨extClone_ok (mf := ⟨mf, false⟩) (Checked.mixed Tryz.checked) Tryz.func69 (show compile Tryz.prog ⟨mf, false⟩ Tryz.f69 = some (irClone t_int true 1) by kernel_rfl), ?_⟩
  exact fun _ h => (by cases h)
theorem hE (f : FuncId) (e : List PV → Option PV) (h : ext f = some e) : ExtOk Tryz.prog f e := by
  unfold ext at h
  simp only [Option.map_eq_some_iff] at h
  obtain ⟨p, hp, rfl⟩ := h
  have h1 := List.mem_of_find?_eq_some hp
  have h2 := List.find?_some hp
  have h3 : p.1 = f := by simpa using h2
  subst h3
  exact extsOk p h1
end Go.Proofs.YtoimodnlefadhaaGreat.Pi
