/- The forms of the functions that the law reaches, and their oracle. Definitions alone; no condition. -/
import Derived.Test.YtoimodnlefadhaaGreatPiExt
namespace Go.Proofs.YtoimodnlefadhaaGreat.Pi
open Go
set_option linter.all false
abbrev t_int : TypeId := 3
abbrev t_bool : TypeId := 4
abbrev t_impl_Spec : TypeId := 26
abbrev t_sl_int : TypeId := 27
abbrev t_impl_Case : TypeId := 29
abbrev t_impl_Move : TypeId := 31
abbrev t_impl_Net : TypeId := 44
abbrev t_impl_Flow : TypeId := 46
abbrev t_spec_l1Cur : TypeId := 61
abbrev t_impl_Trans : TypeId := 75
abbrev t_impl_Task : TypeId := 80
abbrev t_sl_bool : TypeId := 84
abbrev f_laws_big : FuncId := 4
abbrev f_spec_l1Cur_next : FuncId := 50
abbrev f_spec_l1Cur_pick : FuncId := 25
abbrev f_spec_l1Cur_taskOf : FuncId := 70
abbrev f_spec_l1Cur_soundSpec : FuncId := 44
abbrev f_spec_l1Put : FuncId := 45
abbrev f_spec_l1Cur_someOf : FuncId := 46
abbrev f_spec_l1Cur_one : FuncId := 24
abbrev f_spec_l1Cur_among : FuncId := 47
abbrev f_spec_l1Cur_spec : FuncId := 22
abbrev f_spec_l1In : FuncId := 79
abbrev f_spec_l1Has : FuncId := 98
abbrev f_spec_l1Rising : FuncId := 99
abbrev f_spec_l13Task : FuncId := 80
abbrev f_spec_l1Own : FuncId := 83
abbrev f_spec_l1Set : FuncId := 103
abbrev f_spec_l13Some : FuncId := 84
abbrev f_spec_l13Region : FuncId := 85
abbrev f_spec_l13Lay : FuncId := 60
abbrev f_spec_l1Places : FuncId := 101
abbrev f_spec_GoodNet : FuncId := 104
abbrev f_spec_l3Forward : FuncId := 107
abbrev f_spec_l3Back : FuncId := 108
abbrev f_spec_l3Both : FuncId := 109
abbrev f_spec_OnWay : FuncId := 100
abbrev f_spec_GoodFlow : FuncId := 81
abbrev f_spec_GoodSpec : FuncId := 57
abbrev f_spec_l3One : FuncId := 94
abbrev f_spec_NewCase : FuncId := 71
abbrev f_spec_l2Can : FuncId := 87
abbrev f_spec_l2Enabled : FuncId := 64
abbrev f_spec_l14Moves : FuncId := 32
abbrev f_spec_l13No : FuncId := 59
abbrev f_spec_l1All : FuncId := 102
abbrev f_spec_GoodMark : FuncId := 82
abbrev f_spec_l2Marked : FuncId := 86
abbrev f_spec_l2Fire : FuncId := 88
abbrev f_spec_Fire : FuncId := 61
abbrev f_spec_l14Step : FuncId := 30
abbrev f_spec_l1Cur_moves : FuncId := 49
abbrev f_spec_l14Own : FuncId := 72
abbrev f_spec_PlayCase : FuncId := 48
abbrev f_spec_l1Cur_caseOf : FuncId := 23
abbrev f_spec_l14Case : FuncId := 58
abbrev f_spec_GoodCase : FuncId := 29
abbrev f_spec_MovesIn : FuncId := 9
abbrev f_spec_DrawStepCase : FuncId := 5
abbrev f_impl_within : FuncId := 51
abbrev f_impl_increasing : FuncId := 74
abbrev f_impl_allWithin : FuncId := 68
abbrev f_impl_areConds : FuncId := 73
abbrev f_slices_Index_sl_int_int : FuncId := 95
abbrev f_slices_Contains_sl_int_int : FuncId := 75
abbrev f_impl_isTask : FuncId := 52
abbrev f_impl_movesOf : FuncId := 35
abbrev f_slices_Clone_sl_int_int : FuncId := 69
abbrev f_impl_setOf : FuncId := 77
abbrev f_impl_regionOf : FuncId := 78
abbrev f_impl_transOf : FuncId := 56
abbrev f_impl_specFlow : FuncId := 33
abbrev f_impl_arePlaces : FuncId := 92
abbrev f_impl_GoodNet_1 : FuncId := 91
abbrev f_slices_IndexFunc_sl_impl_Trans_impl_Trans : FuncId := 105
abbrev f_slices_ContainsFunc_sl_impl_Trans_impl_Trans : FuncId := 90
abbrev f_impl_GoodNet : FuncId := 65
abbrev f_impl_reachedFrom_1 : FuncId := 106
abbrev f_slices_IndexFunc_sl_int_int : FuncId := 93
abbrev f_slices_ContainsFunc_sl_int_int : FuncId := 66
abbrev f_impl_reachedFrom : FuncId := 96
abbrev f_impl_bothOf : FuncId := 97
abbrev f_impl_onWay : FuncId := 76
abbrev f_impl_GoodFlow : FuncId := 53
abbrev f_impl_isSpec : FuncId := 26
abbrev f_impl_GoodMark : FuncId := 54
abbrev f_impl_isCase : FuncId := 27
abbrev f_impl_isEnabled_1 : FuncId := 67
abbrev f_impl_isEnabled : FuncId := 38
abbrev f_impl_movesIn_1 : FuncId := 63
abbrev f_slices_IndexFunc_sl_impl_Move_impl_Move : FuncId := 89
abbrev f_slices_DeleteFunc_sl_impl_Move_impl_Move : FuncId := 62
abbrev f_impl_movesIn : FuncId := 31
abbrev f_slices_Index_sl_impl_Move_impl_Move : FuncId := 34
abbrev f_slices_Contains_sl_impl_Move_impl_Move : FuncId := 55
abbrev f_impl_fired : FuncId := 40
abbrev f_impl_checkedMark : FuncId := 39
abbrev f_impl_stepCase : FuncId := 28
abbrev f_impl_StepCase : FuncId := 6
abbrev f_spec_StepCase : FuncId := 7
abbrev f_impl_MovesIn : FuncId := 8
abbrev f_laws_sameInts : FuncId := 16
abbrev f_laws_sameCase : FuncId := 10
abbrev f_laws_sameMoves : FuncId := 11
abbrev f_impl_GoodCase : FuncId := 12
abbrev f_impl_SpecFlow : FuncId := 13
abbrev f_impl_MoveNo : FuncId := 14
abbrev f_impl_isMarked : FuncId := 36
abbrev f_impl_isTrans : FuncId := 37
abbrev f_impl_Fire : FuncId := 15
abbrev f_spec_DrawGoodCase : FuncId := 41
abbrev f_spec_DrawCancelCase : FuncId := 17
abbrev f_impl_CancelCase : FuncId := 18
abbrev f_spec_l14Cut : FuncId := 42
abbrev f_spec_CancelCase : FuncId := 19
abbrev f_impl_BusyIn : FuncId := 20
abbrev f_spec_l14Busy : FuncId := 43
abbrev f_spec_BusyIn : FuncId := 21
abbrev f_laws_FnCaseSteps : FuncId := 3
def ext_slices_Clone_sl_int_int : List PV → Option PV := extClone t_int true 1
def ir_laws_big : IFun := ⟨[0, 1, 4],
  (.seq (.region false [] [⟨some 2, .mov (.c (.bool false)), none⟩])
  (.seq (.region false [] [⟨none, .mov (.v 0), none⟩, ⟨none, .len false (.r 0), none⟩, ⟨none, .bin false .gtr (.r 1) (.c (.int .i64 1048576)), none⟩, ⟨none, .mov (.r 2), none⟩, ⟨none, .mov (.v 1), some (3, false)⟩, ⟨none, .len false (.r 4), some (3, false)⟩, ⟨none, .mov (.v 0), some (3, false)⟩, ⟨none, .len false (.r 6), some (3, false)⟩, ⟨none, .bin false .sub (.c (.int .i64 1048576)) (.r 7), some (3, false)⟩, ⟨none, .bin false .gtr (.r 5) (.r 8), some (3, false)⟩, ⟨none, .pick (.r 3) (.c (.bool true)) (.r 9), none⟩, ⟨some 2, .mov (.r 10), none⟩])
  .ret)),
  [.v 2]⟩
def ir_spec_l1Cur_next : IFun := ⟨[0, 2, 3, 13, 53],
  (.seq (.region false [] [⟨some 1, .mov (.c (.int .i64 0)), none⟩])
  (.seq (.region false [] [⟨some 2, .mov (.c (.int .i64 0)), none⟩])
  (.seq (.seq (.region true [] [⟨none, .mov (.v 0), none⟩, ⟨none, .ncheck (.r 0), none⟩, ⟨none, .faddr 1 (.r 1), none⟩, ⟨none, .load false 1 (.r 2), none⟩, ⟨none, .mov (.v 0), none⟩, ⟨none, .ncheck (.r 4), none⟩, ⟨none, .faddr 0 (.r 5), none⟩, ⟨none, .load false 1 (.r 6), none⟩, ⟨none, .len false (.r 7), none⟩, ⟨some 3, .bin false .lss (.r 3) (.r 8), none⟩])
  (.cond (.v 3) (.region true [] [⟨none, .mov (.v 0), none⟩, ⟨none, .ncheck (.r 0), none⟩, ⟨none, .faddr 0 (.r 1), none⟩, ⟨none, .load false 1 (.r 2), none⟩, ⟨none, .mov (.v 0), none⟩, ⟨none, .ncheck (.r 4), none⟩, ⟨none, .faddr 1 (.r 5), none⟩, ⟨none, .load false 1 (.r 6), none⟩, ⟨none, .iaddr 1 (.r 3) (.r 7), none⟩, ⟨none, .load false 1 (.r 8), none⟩, ⟨none, .conv .i64 (.r 9), none⟩, ⟨some 2, .mov (.r 10), none⟩]) .skip))
  (.seq (.region false [] [⟨none, .mov (.v 0), none⟩, ⟨none, .ncheck (.r 0), none⟩, ⟨none, .faddr 1 (.r 1), none⟩, ⟨none, .load false 1 (.r 2), none⟩, ⟨none, .bin false .add (.r 3) (.c (.int .i64 1)), none⟩, ⟨none, .ncheck (.r 0), none⟩, ⟨none, .faddr 1 (.r 5), none⟩, ⟨none, .store 1 (.r 6) (.r 4), none⟩])
  (.seq (.region false [] [⟨none, .mov (.v 0), none⟩, ⟨none, .mov (.v 0), none⟩, ⟨none, .ncheck (.r 1), none⟩, ⟨none, .faddr 2 (.r 2), none⟩, ⟨none, .load false 1 (.r 3), none⟩, ⟨none, .bin false .mul (.r 4) (.c (.int .u64 6364136223846793005)), none⟩, ⟨none, .mov (.v 2), none⟩, ⟨none, .conv .u64 (.r 6), none⟩, ⟨none, .bin false .add (.r 5) (.r 7), none⟩, ⟨none, .bin false .add (.r 8) (.c (.int .u64 1442695040888963407)), none⟩, ⟨none, .ncheck (.r 0), none⟩, ⟨none, .faddr 2 (.r 10), none⟩, ⟨none, .store 1 (.r 11) (.r 9), none⟩])
  (.seq (.seq (.region true [] [⟨none, .mov (.v 0), none⟩, ⟨none, .ncheck (.r 0), none⟩, ⟨none, .faddr 1 (.r 1), none⟩, ⟨none, .load false 1 (.r 2), none⟩, ⟨none, .mov (.v 0), none⟩, ⟨none, .ncheck (.r 4), none⟩, ⟨none, .faddr 0 (.r 5), none⟩, ⟨none, .load false 1 (.r 6), none⟩, ⟨none, .len false (.r 7), none⟩, ⟨some 4, .bin false .leq (.r 3) (.r 8), none⟩])
  (.cond (.v 4) (.seq (.region false [] [⟨none, .mov (.v 2), none⟩, ⟨some 1, .mov (.r 0), none⟩])
  .ret) .skip))
  (.seq (.region false [] [⟨none, .mov (.v 0), none⟩, ⟨none, .ncheck (.r 0), none⟩, ⟨none, .faddr 2 (.r 1), none⟩, ⟨none, .load false 1 (.r 2), none⟩, ⟨none, .bin false .shr (.r 3) (.c (.int .u64 40)), none⟩, ⟨none, .bin false .and (.r 4) (.c (.int .u64 255)), none⟩, ⟨none, .conv .i64 (.r 5), none⟩, ⟨some 1, .mov (.r 6), none⟩])
  .ret))))))),
  [.v 1]⟩
def ir_spec_l1Cur_pick : IFun := ⟨[0, 1, 4, 5, 7, 11],
  (.seq (.region false [] [⟨some 2, .mov (.c (.int .i64 0)), none⟩])
  (.seq (.seq (.region false [] [⟨none, .mov (.v 1), none⟩, ⟨some 4, .bin false .leq (.r 0) (.c (.int .i64 1)), none⟩])
  (.cond (.v 4) (.seq (.region false [] [⟨some 2, .mov (.c (.int .i64 0)), none⟩])
  .ret) .skip))
  (.seq (.region false [] [⟨none, .mov (.v 0), none⟩, ⟨none, .callm f_spec_l1Cur_next [(.r 0)], none⟩, ⟨some 3, .mov (.r 1), none⟩])
  (.seq (.seq (.region false [] [⟨none, .mov (.v 1), none⟩, ⟨some 5, .bin false .gtr (.r 0) (.c (.int .i64 200)), none⟩])
  (.cond (.v 5) (.region false [] [⟨none, .mov (.v 3), none⟩, ⟨none, .bin false .mul (.r 0) (.c (.int .i64 256)), none⟩, ⟨none, .mov (.v 0), none⟩, ⟨none, .callm f_spec_l1Cur_next [(.r 2)], none⟩, ⟨none, .bin false .add (.r 1) (.r 3), none⟩, ⟨some 3, .mov (.r 4), none⟩]) .skip))
  (.seq (.region false [] [⟨none, .mov (.v 3), none⟩, ⟨none, .mov (.v 1), none⟩, ⟨none, .bin false .rem (.r 0) (.r 1), none⟩, ⟨some 2, .mov (.r 2), none⟩])
  .ret))))),
  [.v 2]⟩
def ir_spec_l1Cur_taskOf : IFun := ⟨[0, 1, 2, 3, 4, 10],
  (.seq (.region false [] [⟨some 5, .alloc t_impl_Task [(.int .i64 0), (.int .i64 0), (.nil true 1), (.nil true 1), (.nil true 1), (.nil true 1), (.int .i64 0)], none⟩])
  (.seq (.region false [] [⟨none, .mov (.v 3), none⟩, ⟨none, .mov (.v 4), none⟩, ⟨none, .mov (.v 1), none⟩, ⟨none, .mov (.v 2), none⟩, ⟨none, .mov (.v 0), none⟩, ⟨none, .callm f_spec_l1Cur_pick [(.r 4), (.c (.int .i64 3))], none⟩, ⟨none, .build [(.int .i64 0), (.int .i64 0), (.nil true 1), (.nil true 1), (.nil true 1), (.nil true 1), (.int .i64 0)] [(0, 1, (.r 0)), (1, 1, (.r 1)), (2, 1, (.r 2)), (3, 1, (.r 3)), (6, 1, (.r 5))], none⟩, ⟨none, .store 7 (.v 5) (.r 6), none⟩])
  .ret)),
  [.cell true 7 5]⟩
def ir_spec_l1Cur_soundSpec : IFun := ⟨[0, 2, 3, 4, 5, 7, 49, 67, 100, 118],
  (.seq (.region false [] [⟨some 1, .alloc t_impl_Spec [(.int .i64 0), (.nil false 7)], none⟩])
  (.seq (.region false [] [⟨some 2, .mov (.c (.int .i64 1)), none⟩])
  (.seq (.region false [] [⟨some 3, .mov (.c (.int .i64 2)), none⟩])
  (.seq (.region false [] [⟨some 4, .alloc t_impl_Spec [(.int .i64 0), (.nil false 7)], none⟩])
  (.seq (.seq (.region false [] [⟨none, .mov (.v 0), none⟩, ⟨some 5, .callm f_spec_l1Cur_pick [(.r 0), (.c (.int .i64 5))], none⟩])
  (.block 0 (.seq (.region false [] [⟨none, .bin false .eql (.v 5) (.c (.int .i64 0)), none⟩, ⟨some 6, .mov (.r 0), none⟩])
  (.cond (.v 6) (.seq (.region false [] [⟨none, .faddr 0 (.v 4), none⟩, ⟨none, .store 1 (.r 0) (.c (.int .i64 3)), none⟩])
  (.region true [(10, 1), (11, 1), (12, 1)] [⟨none, .faddr 1 (.v 4), none⟩, ⟨none, .load false 1 (.r 0), none⟩, ⟨none, .mov (.v 0), none⟩, ⟨none, .bslice true t_int true 1 [(.c (.int .i64 0))], none⟩, ⟨none, .bslice true t_int true 1 [(.c (.int .i64 2))], none⟩, ⟨none, .mov (.v 2), none⟩, ⟨none, .mov (.v 0), none⟩, ⟨none, .bslice true t_int true 1 [(.c (.int .i64 2))], none⟩, ⟨none, .bslice true t_int true 1 [(.c (.int .i64 1))], none⟩, ⟨none, .mov (.v 2), none⟩, ⟨none, .callm f_spec_l1Cur_taskOf [(.r 2), (.r 3), (.r 4), (.r 5), (.c (.int .i64 1))], none⟩, ⟨none, .callm f_spec_l1Cur_taskOf [(.r 6), (.r 7), (.r 8), (.r 9), (.c (.int .i64 1))], none⟩, ⟨none, .bslice false t_impl_Task false 7 [(.r 10), (.r 11)], none⟩, ⟨none, .append t_impl_Task false 7 (.r 1) (.r 12), none⟩, ⟨none, .faddr 1 (.v 4), none⟩, ⟨none, .store 1 (.r 14) (.r 13), none⟩])) (.seq (.region false [] [⟨none, .bin false .eql (.v 5) (.c (.int .i64 1)), none⟩, ⟨some 7, .mov (.r 0), none⟩])
  (.cond (.v 7) (.seq (.region false [] [⟨none, .faddr 0 (.v 4), none⟩, ⟨none, .store 1 (.r 0) (.c (.int .i64 6)), none⟩])
  (.seq (.region true [(10, 1), (11, 1), (12, 1)] [⟨none, .faddr 1 (.v 4), none⟩, ⟨none, .load false 1 (.r 0), none⟩, ⟨none, .mov (.v 0), none⟩, ⟨none, .bslice true t_int true 1 [(.c (.int .i64 0))], none⟩, ⟨none, .bslice true t_int true 1 [(.c (.int .i64 2)), (.c (.int .i64 3))], none⟩, ⟨none, .mov (.v 2), none⟩, ⟨none, .mov (.v 0), none⟩, ⟨none, .bslice true t_int true 1 [(.c (.int .i64 2))], none⟩, ⟨none, .bslice true t_int true 1 [(.c (.int .i64 4))], none⟩, ⟨none, .mov (.v 2), none⟩, ⟨none, .callm f_spec_l1Cur_taskOf [(.r 2), (.r 3), (.r 4), (.r 5), (.c (.int .i64 1))], none⟩, ⟨none, .callm f_spec_l1Cur_taskOf [(.r 6), (.r 7), (.r 8), (.r 9), (.c (.int .i64 1))], none⟩, ⟨none, .bslice false t_impl_Task false 7 [(.r 10), (.r 11)], none⟩, ⟨none, .append t_impl_Task false 7 (.r 1) (.r 12), none⟩, ⟨none, .faddr 1 (.v 4), none⟩, ⟨none, .store 1 (.r 14) (.r 13), none⟩])
  (.region true [(10, 1), (11, 1), (12, 1)] [⟨none, .faddr 1 (.v 4), none⟩, ⟨none, .load false 1 (.r 0), none⟩, ⟨none, .mov (.v 0), none⟩, ⟨none, .bslice true t_int true 1 [(.c (.int .i64 3))], none⟩, ⟨none, .bslice true t_int true 1 [(.c (.int .i64 5))], none⟩, ⟨none, .mov (.v 3), none⟩, ⟨none, .mov (.v 0), none⟩, ⟨none, .bslice true t_int true 1 [(.c (.int .i64 4)), (.c (.int .i64 5))], none⟩, ⟨none, .bslice true t_int true 1 [(.c (.int .i64 1))], none⟩, ⟨none, .mov (.v 2), none⟩, ⟨none, .callm f_spec_l1Cur_taskOf [(.r 2), (.r 3), (.r 4), (.r 5), (.c (.int .i64 2))], none⟩, ⟨none, .callm f_spec_l1Cur_taskOf [(.r 6), (.r 7), (.r 8), (.r 9), (.c (.int .i64 1))], none⟩, ⟨none, .bslice false t_impl_Task false 7 [(.r 10), (.r 11)], none⟩, ⟨none, .append t_impl_Task false 7 (.r 1) (.r 12), none⟩, ⟨none, .faddr 1 (.v 4), none⟩, ⟨none, .store 1 (.r 14) (.r 13), none⟩]))) (.seq (.region false [] [⟨none, .bin false .eql (.v 5) (.c (.int .i64 2)), none⟩, ⟨some 8, .mov (.r 0), none⟩])
  (.cond (.v 8) (.seq (.region false [] [⟨none, .faddr 0 (.v 4), none⟩, ⟨none, .store 1 (.r 0) (.c (.int .i64 4)), none⟩])
  (.region true [(10, 1), (11, 1), (12, 1)] [⟨none, .faddr 1 (.v 4), none⟩, ⟨none, .load false 1 (.r 0), none⟩, ⟨none, .mov (.v 0), none⟩, ⟨none, .bslice true t_int true 1 [(.c (.int .i64 0))], none⟩, ⟨none, .bslice true t_int true 1 [(.c (.int .i64 2)), (.c (.int .i64 3))], none⟩, ⟨none, .mov (.v 3), none⟩, ⟨none, .mov (.v 0), none⟩, ⟨none, .bslice true t_int true 1 [(.c (.int .i64 2)), (.c (.int .i64 3))], none⟩, ⟨none, .bslice true t_int true 1 [(.c (.int .i64 1))], none⟩, ⟨none, .mov (.v 3), none⟩, ⟨none, .callm f_spec_l1Cur_taskOf [(.r 2), (.r 3), (.r 4), (.r 5), (.c (.int .i64 2))], none⟩, ⟨none, .callm f_spec_l1Cur_taskOf [(.r 6), (.r 7), (.r 8), (.r 9), (.c (.int .i64 1))], none⟩, ⟨none, .bslice false t_impl_Task false 7 [(.r 10), (.r 11)], none⟩, ⟨none, .append t_impl_Task false 7 (.r 1) (.r 12), none⟩, ⟨none, .faddr 1 (.v 4), none⟩, ⟨none, .store 1 (.r 14) (.r 13), none⟩])) (.seq (.region false [] [⟨none, .bin false .eql (.v 5) (.c (.int .i64 3)), none⟩, ⟨some 9, .mov (.r 0), none⟩])
  (.cond (.v 9) (.seq (.region false [] [⟨none, .faddr 0 (.v 4), none⟩, ⟨none, .store 1 (.r 0) (.c (.int .i64 4)), none⟩])
  (.region true [(10, 1), (11, 1), (12, 1)] [⟨none, .faddr 1 (.v 4), none⟩, ⟨none, .load false 1 (.r 0), none⟩, ⟨none, .mov (.v 0), none⟩, ⟨none, .bslice true t_int true 1 [(.c (.int .i64 0))], none⟩, ⟨none, .bslice true t_int true 1 [(.c (.int .i64 2))], none⟩, ⟨none, .mov (.v 2), none⟩, ⟨none, .mov (.v 0), none⟩, ⟨none, .bslice true t_int true 1 [(.c (.int .i64 2)), (.c (.int .i64 3))], none⟩, ⟨none, .bslice true t_int true 1 [(.c (.int .i64 1)), (.c (.int .i64 3))], none⟩, ⟨none, .mov (.v 3), none⟩, ⟨none, .callm f_spec_l1Cur_taskOf [(.r 2), (.r 3), (.r 4), (.r 5), (.c (.int .i64 1))], none⟩, ⟨none, .callm f_spec_l1Cur_taskOf [(.r 6), (.r 7), (.r 8), (.r 9), (.c (.int .i64 2))], none⟩, ⟨none, .bslice false t_impl_Task false 7 [(.r 10), (.r 11)], none⟩, ⟨none, .append t_impl_Task false 7 (.r 1) (.r 12), none⟩, ⟨none, .faddr 1 (.v 4), none⟩, ⟨none, .store 1 (.r 14) (.r 13), none⟩])) (.seq (.region false [] [⟨none, .faddr 0 (.v 4), none⟩, ⟨none, .store 1 (.r 0) (.c (.int .i64 4)), none⟩])
  (.seq (.region true [(14, 1), (15, 1), (16, 1), (17, 1)] [⟨none, .faddr 1 (.v 4), none⟩, ⟨none, .load false 1 (.r 0), none⟩, ⟨none, .mov (.v 0), none⟩, ⟨none, .bslice true t_int true 1 [(.c (.int .i64 0))], none⟩, ⟨none, .bslice true t_int true 1 [(.c (.int .i64 2)), (.c (.int .i64 3))], none⟩, ⟨none, .mov (.v 2), none⟩, ⟨none, .mov (.v 0), none⟩, ⟨none, .bslice true t_int true 1 [(.c (.int .i64 2))], none⟩, ⟨none, .bslice true t_int true 1 [(.c (.int .i64 1))], none⟩, ⟨none, .mov (.v 2), none⟩, ⟨none, .mov (.v 0), none⟩, ⟨none, .bslice true t_int true 1 [(.c (.int .i64 3))], none⟩, ⟨none, .bslice true t_int true 1 [(.c (.int .i64 1)), (.c (.int .i64 3))], none⟩, ⟨none, .mov (.v 2), none⟩, ⟨none, .callm f_spec_l1Cur_taskOf [(.r 2), (.r 3), (.r 4), (.r 5), (.c (.int .i64 1))], none⟩, ⟨none, .callm f_spec_l1Cur_taskOf [(.r 6), (.r 7), (.r 8), (.r 9), (.c (.int .i64 1))], none⟩, ⟨none, .callm f_spec_l1Cur_taskOf [(.r 10), (.r 11), (.r 12), (.r 13), (.c (.int .i64 2))], none⟩, ⟨none, .bslice false t_impl_Task false 7 [(.r 14), (.r 15), (.r 16)], none⟩, ⟨none, .append t_impl_Task false 7 (.r 1) (.r 17), none⟩, ⟨none, .faddr 1 (.v 4), none⟩, ⟨none, .store 1 (.r 19) (.r 18), none⟩])
  (.seq (.region false [] [⟨none, .faddr 1 (.v 4), none⟩, ⟨none, .load false 1 (.r 0), none⟩, ⟨none, .bslice false t_int true 1 [(.c (.int .i64 3))], none⟩, ⟨none, .iaddr 7 (.r 1) (.c (.int .i64 1)), none⟩, ⟨none, .faddr 4 (.r 3), none⟩, ⟨none, .store 1 (.r 4) (.r 2), none⟩])
  (.seq (.region false [] [⟨none, .faddr 1 (.v 4), none⟩, ⟨none, .load false 1 (.r 0), none⟩, ⟨none, .bslice false t_int true 1 [(.c (.int .i64 2))], none⟩, ⟨none, .iaddr 7 (.r 1) (.c (.int .i64 1)), none⟩, ⟨none, .faddr 5 (.r 3), none⟩, ⟨none, .store 1 (.r 4) (.r 2), none⟩])
  (.seq (.region false [] [⟨none, .faddr 1 (.v 4), none⟩, ⟨none, .load false 1 (.r 0), none⟩, ⟨none, .bslice false t_int true 1 [(.c (.int .i64 2))], none⟩, ⟨none, .iaddr 7 (.r 1) (.c (.int .i64 2)), none⟩, ⟨none, .faddr 4 (.r 3), none⟩, ⟨none, .store 1 (.r 4) (.r 2), none⟩])
  (.region false [] [⟨none, .faddr 1 (.v 4), none⟩, ⟨none, .load false 1 (.r 0), none⟩, ⟨none, .bslice false t_int true 1 [(.c (.int .i64 1))], none⟩, ⟨none, .iaddr 7 (.r 1) (.c (.int .i64 2)), none⟩, ⟨none, .faddr 5 (.r 3), none⟩, ⟨none, .store 1 (.r 4) (.r 2), none⟩]))))))))))))))))
  (.seq (.region false [] [⟨none, .load true 2 (.v 4), none⟩, ⟨none, .store 2 (.v 1) (.r 0), none⟩])
  .ret)))))),
  [.cell true 2 1]⟩
def ir_spec_l1Put : IFun := ⟨[0, 1, 4, 5, 6, 18, 32],
  (.seq (.region false [] [⟨some 2, .nilrow t_int true 1, none⟩])
  (.seq (.region false [] [⟨some 3, .mov (.c (.int .i64 0)), none⟩])
  (.seq (.block 0 (.loop [true, true, false, true, false, false, false] (.seq (.seq (.region false [] [⟨none, .mov (.v 3), none⟩, ⟨none, .mov (.v 0), none⟩, ⟨none, .len false (.r 1), none⟩, ⟨none, .bin false .lss (.r 0) (.r 2), none⟩, ⟨none, .mov (.r 3), none⟩, ⟨none, .mov (.v 0), some (4, true)⟩, ⟨none, .mov (.v 3), some (4, true)⟩, ⟨none, .iaddr 1 (.r 5) (.r 6), some (4, true)⟩, ⟨none, .load false 1 (.r 7), some (4, true)⟩, ⟨none, .mov (.v 1), some (4, true)⟩, ⟨none, .bin false .lss (.r 8) (.r 9), some (4, true)⟩, ⟨some 5, .pick (.r 4) (.r 10) (.c (.bool false)), none⟩])
  (.cond (.v 5) .skip (.exit 0)))
  (.block 1 (.region false [] [⟨none, .mov (.v 3), none⟩, ⟨none, .bin false .add (.r 0) (.c (.int .i64 1)), none⟩, ⟨some 3, .mov (.r 1), none⟩])))))
  (.seq (.seq (.region false [] [⟨none, .mov (.v 3), none⟩, ⟨none, .mov (.v 0), none⟩, ⟨none, .len false (.r 1), none⟩, ⟨none, .bin false .lss (.r 0) (.r 2), none⟩, ⟨none, .mov (.r 3), none⟩, ⟨none, .mov (.v 0), some (4, true)⟩, ⟨none, .mov (.v 3), some (4, true)⟩, ⟨none, .iaddr 1 (.r 5) (.r 6), some (4, true)⟩, ⟨none, .load false 1 (.r 7), some (4, true)⟩, ⟨none, .mov (.v 1), some (4, true)⟩, ⟨none, .bin false .eql (.r 8) (.r 9), some (4, true)⟩, ⟨some 6, .pick (.r 4) (.r 10) (.c (.bool false)), none⟩])
  (.cond (.v 6) (.seq (.region false [] [⟨none, .mov (.v 0), none⟩, ⟨some 2, .mov (.r 0), none⟩])
  .ret) .skip))
  (.seq (.region false [] [⟨none, .bslice false t_int true 1 [], none⟩, ⟨none, .mov (.v 0), none⟩, ⟨none, .mov (.v 3), none⟩, ⟨none, .slice 1 (.r 1) none (some (.r 2)), none⟩, ⟨none, .append t_int true 1 (.r 0) (.r 3), none⟩, ⟨some 4, .mov (.r 4), none⟩])
  (.seq (.region false [] [⟨none, .mov (.v 4), none⟩, ⟨none, .mov (.v 1), none⟩, ⟨none, .bslice false t_int true 1 [(.r 1)], none⟩, ⟨none, .append t_int true 1 (.r 0) (.r 2), none⟩, ⟨some 4, .mov (.r 3), none⟩])
  (.seq (.region false [] [⟨none, .mov (.v 4), none⟩, ⟨none, .mov (.v 0), none⟩, ⟨none, .mov (.v 3), none⟩, ⟨none, .slice 1 (.r 1) (some (.r 2)) none, none⟩, ⟨none, .append t_int true 1 (.r 0) (.r 3), none⟩, ⟨some 2, .mov (.r 4), none⟩])
  .ret))))))),
  [.v 2]⟩
def ir_spec_l1Cur_someOf : IFun := ⟨[0, 1, 2, 3, 8, 9, 10, 20],
  (.seq (.region false [] [⟨some 4, .nilrow t_int true 1, none⟩])
  (.seq (.region false [] [⟨some 5, .nilrow t_int true 1, none⟩])
  (.seq (.seq (.region false [] [⟨none, .mov (.v 2), none⟩, ⟨none, .mov (.v 0), none⟩, ⟨none, .mov (.v 3), none⟩, ⟨none, .mov (.v 2), none⟩, ⟨none, .bin false .sub (.r 2) (.r 3), none⟩, ⟨none, .bin false .add (.r 4) (.c (.int .i64 1)), none⟩, ⟨none, .callm f_spec_l1Cur_pick [(.r 1), (.r 5)], none⟩, ⟨none, .bin false .add (.r 0) (.r 6), none⟩, ⟨some 6, .mov (.r 7), none⟩])
  (.block 0 (.loop [true, true, false, false, false, true, true, false] (.seq (.seq (.region false [] [⟨none, .mov (.v 6), none⟩, ⟨some 7, .bin false .gtr (.r 0) (.c (.int .i64 0)), none⟩])
  (.cond (.v 7) .skip (.exit 0)))
  (.seq (.block 1 (.region false [] [⟨none, .mov (.v 5), none⟩, ⟨none, .mov (.v 0), none⟩, ⟨none, .mov (.v 1), none⟩, ⟨none, .callm f_spec_l1Cur_pick [(.r 1), (.r 2)], none⟩, ⟨none, .callm f_spec_l1Put [(.r 0), (.r 3)], none⟩, ⟨some 5, .mov (.r 4), none⟩]))
  (.region false [] [⟨none, .mov (.v 6), none⟩, ⟨none, .bin false .sub (.r 0) (.c (.int .i64 1)), none⟩, ⟨some 6, .mov (.r 1), none⟩]))))))
  (.seq (.region false [] [⟨none, .mov (.v 5), none⟩, ⟨some 4, .mov (.r 0), none⟩])
  .ret)))),
  [.v 4]⟩
def ir_spec_l1Cur_one : IFun := ⟨[0, 1, 4],
  (.seq (.region false [] [⟨some 2, .mov (.c (.bool false)), none⟩])
  (.seq (.region false [] [⟨none, .mov (.v 0), none⟩, ⟨none, .mov (.v 1), none⟩, ⟨none, .callm f_spec_l1Cur_pick [(.r 0), (.r 1)], none⟩, ⟨none, .bin false .eql (.r 2) (.c (.int .i64 0)), none⟩, ⟨some 2, .mov (.r 3), none⟩])
  .ret)),
  [.v 2]⟩
def ir_spec_l1Cur_among : IFun := ⟨[0, 1, 4],
  (.seq (.region false [] [⟨some 2, .mov (.c (.int .i64 0)), none⟩])
  (.seq (.region false [] [⟨none, .mov (.v 1), none⟩, ⟨none, .mov (.v 0), none⟩, ⟨none, .mov (.v 1), none⟩, ⟨none, .len false (.r 2), none⟩, ⟨none, .callm f_spec_l1Cur_pick [(.r 1), (.r 3)], none⟩, ⟨none, .iaddr 1 (.r 0) (.r 4), none⟩, ⟨none, .load false 1 (.r 5), none⟩, ⟨some 2, .mov (.r 6), none⟩])
  .ret)),
  [.v 2]⟩
def ir_spec_l1Cur_spec : IFun := ⟨[0, 2, 3, 4, 13, 14, 24, 34, 52, 70, 81, 95],
  (.seq (.region false [] [⟨some 1, .alloc t_impl_Spec [(.int .i64 0), (.nil false 7)], none⟩])
  (.seq (.region false [] [⟨none, .mov (.v 0), none⟩, ⟨none, .callm f_spec_l1Cur_soundSpec [(.r 0)], none⟩, ⟨some 2, .alloc t_impl_Spec [(.int .i64 0), (.nil false 7)], none⟩, ⟨none, .store 2 (.v 2) (.r 1), none⟩])
  (.seq (.region false [] [⟨none, .mov (.v 0), none⟩, ⟨none, .faddr 1 (.v 2), none⟩, ⟨none, .load false 1 (.r 1), none⟩, ⟨none, .len false (.r 2), none⟩, ⟨none, .callm f_spec_l1Cur_pick [(.r 0), (.r 3)], none⟩, ⟨some 3, .mov (.r 4), none⟩])
  (.seq (.seq (.region false [] [⟨none, .mov (.v 0), none⟩, ⟨some 4, .callm f_spec_l1Cur_pick [(.r 0), (.c (.int .i64 10))], none⟩])
  (.block 0 (.seq (.region false [] [⟨none, .bin false .eql (.v 4) (.c (.int .i64 0)), none⟩, ⟨some 5, .mov (.r 0), none⟩])
  (.cond (.v 5) (.region true [(4, 1)] [⟨none, .faddr 1 (.v 2), none⟩, ⟨none, .load false 1 (.r 0), none⟩, ⟨none, .mov (.v 3), none⟩, ⟨none, .mov (.v 0), none⟩, ⟨none, .callm f_spec_l1Cur_pick [(.r 3), (.c (.int .i64 3))], none⟩, ⟨none, .bin false .add (.c (.int .i64 1)) (.r 4), none⟩, ⟨none, .iaddr 7 (.r 1) (.r 2), none⟩, ⟨none, .faddr 1 (.r 6), none⟩, ⟨none, .store 1 (.r 7) (.r 5), none⟩]) (.seq (.region false [] [⟨none, .bin false .eql (.v 4) (.c (.int .i64 1)), none⟩, ⟨some 6, .mov (.r 0), none⟩])
  (.cond (.v 6) (.region true [(4, 1)] [⟨none, .faddr 1 (.v 2), none⟩, ⟨none, .load false 1 (.r 0), none⟩, ⟨none, .mov (.v 3), none⟩, ⟨none, .mov (.v 0), none⟩, ⟨none, .callm f_spec_l1Cur_pick [(.r 3), (.c (.int .i64 2))], none⟩, ⟨none, .bin false .add (.c (.int .i64 1)) (.r 4), none⟩, ⟨none, .iaddr 7 (.r 1) (.r 2), none⟩, ⟨none, .faddr 0 (.r 6), none⟩, ⟨none, .store 1 (.r 7) (.r 5), none⟩]) (.seq (.region false [] [⟨none, .bin false .eql (.v 4) (.c (.int .i64 2)), none⟩, ⟨some 7, .mov (.r 0), none⟩])
  (.cond (.v 7) (.region true [(12, 1), (12, 4), (12, 8), (13, 1)] [⟨none, .faddr 1 (.v 2), none⟩, ⟨none, .load false 1 (.r 0), none⟩, ⟨none, .mov (.v 3), none⟩, ⟨none, .faddr 1 (.v 2), none⟩, ⟨none, .load false 1 (.r 3), none⟩, ⟨none, .mov (.v 3), none⟩, ⟨none, .iaddr 7 (.r 4) (.r 5), none⟩, ⟨none, .faddr 3 (.r 6), none⟩, ⟨none, .load false 1 (.r 7), none⟩, ⟨none, .mov (.v 0), none⟩, ⟨none, .faddr 0 (.v 2), none⟩, ⟨none, .load false 1 (.r 10), none⟩, ⟨none, .callm f_spec_l1Cur_pick [(.r 9), (.r 11)], none⟩, ⟨none, .callm f_spec_l1Put [(.r 8), (.r 12)], none⟩, ⟨none, .iaddr 7 (.r 1) (.r 2), none⟩, ⟨none, .faddr 3 (.r 14), none⟩, ⟨none, .store 1 (.r 15) (.r 13), none⟩]) (.seq (.region false [] [⟨none, .bin false .eql (.v 4) (.c (.int .i64 3)), none⟩, ⟨some 8, .mov (.r 0), none⟩])
  (.cond (.v 8) (.region true [(12, 1), (12, 4), (12, 8), (13, 1)] [⟨none, .faddr 1 (.v 2), none⟩, ⟨none, .load false 1 (.r 0), none⟩, ⟨none, .mov (.v 3), none⟩, ⟨none, .faddr 1 (.v 2), none⟩, ⟨none, .load false 1 (.r 3), none⟩, ⟨none, .mov (.v 3), none⟩, ⟨none, .iaddr 7 (.r 4) (.r 5), none⟩, ⟨none, .faddr 2 (.r 6), none⟩, ⟨none, .load false 1 (.r 7), none⟩, ⟨none, .mov (.v 0), none⟩, ⟨none, .faddr 0 (.v 2), none⟩, ⟨none, .load false 1 (.r 10), none⟩, ⟨none, .callm f_spec_l1Cur_pick [(.r 9), (.r 11)], none⟩, ⟨none, .callm f_spec_l1Put [(.r 8), (.r 12)], none⟩, ⟨none, .iaddr 7 (.r 1) (.r 2), none⟩, ⟨none, .faddr 2 (.r 14), none⟩, ⟨none, .store 1 (.r 15) (.r 13), none⟩]) (.seq (.region false [] [⟨none, .bin false .eql (.v 4) (.c (.int .i64 4)), none⟩, ⟨some 9, .mov (.r 0), none⟩])
  (.cond (.v 9) (.region true [(6, 1)] [⟨none, .faddr 1 (.v 2), none⟩, ⟨none, .load false 1 (.r 0), none⟩, ⟨none, .mov (.v 3), none⟩, ⟨none, .mov (.v 0), none⟩, ⟨none, .faddr 0 (.v 2), none⟩, ⟨none, .load false 1 (.r 4), none⟩, ⟨none, .callm f_spec_l1Cur_someOf [(.r 3), (.r 5), (.c (.int .i64 0)), (.c (.int .i64 2))], none⟩, ⟨none, .iaddr 7 (.r 1) (.r 2), none⟩, ⟨none, .faddr 4 (.r 7), none⟩, ⟨none, .store 1 (.r 8) (.r 6), none⟩]) (.seq (.region false [] [⟨none, .bin false .eql (.v 4) (.c (.int .i64 5)), none⟩, ⟨some 10, .mov (.r 0), none⟩])
  (.cond (.v 10) (.region true [(7, 1), (8, 1)] [⟨none, .faddr 1 (.v 2), none⟩, ⟨none, .load false 1 (.r 0), none⟩, ⟨none, .mov (.v 3), none⟩, ⟨none, .mov (.v 0), none⟩, ⟨none, .faddr 1 (.v 2), none⟩, ⟨none, .load false 1 (.r 4), none⟩, ⟨none, .len false (.r 5), none⟩, ⟨none, .callm f_spec_l1Cur_pick [(.r 3), (.r 6)], none⟩, ⟨none, .bslice false t_int true 1 [(.r 7)], none⟩, ⟨none, .iaddr 7 (.r 1) (.r 2), none⟩, ⟨none, .faddr 5 (.r 9), none⟩, ⟨none, .store 1 (.r 10) (.r 8), none⟩]) .skip))))))))))))))
  (.seq (.seq (.region false [] [⟨none, .mov (.v 0), none⟩, ⟨some 11, .callm f_spec_l1Cur_one [(.r 0), (.c (.int .i64 40))], none⟩])
  (.cond (.v 11) (.region false [] [⟨none, .mov (.v 0), none⟩, ⟨none, .bslice false t_int true 1 [(.c (.int .i64 1)), (.c (.int .i64 8)), (.c (.int .i64 9))], none⟩, ⟨none, .callm f_spec_l1Cur_among [(.r 0), (.r 1)], none⟩, ⟨none, .faddr 0 (.v 2), none⟩, ⟨none, .store 1 (.r 3) (.r 2), none⟩]) .skip))
  (.seq (.region false [] [⟨none, .load true 2 (.v 2), none⟩, ⟨none, .store 2 (.v 1) (.r 0), none⟩])
  .ret)))))),
  [.cell true 2 1]⟩
def ir_spec_l1In : IFun := ⟨[0, 1, 2, 6],
  (.seq (.region false [] [⟨some 3, .mov (.c (.bool false)), none⟩])
  (.seq (.region false [] [⟨none, .mov (.v 0), none⟩, ⟨none, .mov (.v 1), none⟩, ⟨none, .bin false .geq (.r 0) (.r 1), none⟩, ⟨none, .mov (.r 2), none⟩, ⟨none, .mov (.v 0), some (3, true)⟩, ⟨none, .mov (.v 2), some (3, true)⟩, ⟨none, .bin false .leq (.r 4) (.r 5), some (3, true)⟩, ⟨none, .pick (.r 3) (.r 6) (.c (.bool false)), none⟩, ⟨some 3, .mov (.r 7), none⟩])
  .ret)),
  [.v 3]⟩
def ir_spec_l1Has : IFun := ⟨[0, 1, 4, 6, 7, 8, 9, 10, 15],
  (.seq (.region false [] [⟨some 2, .mov (.c (.bool false)), none⟩])
  (.seq (.seq (.region false [] [⟨some 4, .mov (.v 0), none⟩, ⟨some 5, .len false (.v 4), none⟩, ⟨some 6, .mov (.c (.int .i64 0)), none⟩])
  (.block 0 (.loop [false, true, false, false, true, true, true, false, false] (.seq (.region false [] [⟨some 7, .bin false .lss (.v 6) (.v 5), none⟩])
  (.seq (.cond (.v 7) .skip (.exit 0))
  (.seq (.block 1 (.seq (.region false [] [⟨none, .iaddr 1 (.v 4) (.v 6), none⟩, ⟨none, .load false 1 (.r 0), none⟩, ⟨some 3, .mov (.r 1), none⟩])
  (.seq (.region false [] [⟨none, .mov (.v 3), none⟩, ⟨none, .mov (.v 1), none⟩, ⟨some 8, .bin false .eql (.r 0) (.r 1), none⟩])
  (.cond (.v 8) (.seq (.region false [] [⟨some 2, .mov (.c (.bool true)), none⟩])
  .ret) .skip))))
  (.region false [] [⟨none, .bin false .add (.v 6) (.c (.int .i64 1)), none⟩, ⟨some 6, .mov (.r 0), none⟩])))))))
  (.seq (.region false [] [⟨some 2, .mov (.c (.bool false)), none⟩])
  .ret))),
  [.v 2]⟩
def ir_spec_l1Rising : IFun := ⟨[0, 1, 2, 6, 7, 8, 9, 10, 11, 12, 33],
  (.seq (.region false [] [⟨some 3, .mov (.c (.bool false)), none⟩])
  (.seq (.seq (.region false [] [⟨some 6, .mov (.v 0), none⟩, ⟨some 7, .len false (.v 6), none⟩, ⟨some 8, .mov (.c (.int .i64 0)), none⟩])
  (.block 0 (.loop [true, true, true, false, false, false, true, true, true, false, false] (.seq (.region false [] [⟨some 9, .bin false .lss (.v 8) (.v 7), none⟩])
  (.seq (.cond (.v 9) .skip (.exit 0))
  (.seq (.block 1 (.seq (.region false [] [⟨none, .mov (.v 8), none⟩, ⟨none, .iaddr 1 (.v 6) (.v 8), none⟩, ⟨none, .load false 1 (.r 1), none⟩, ⟨some 4, .mov (.r 0), none⟩, ⟨some 5, .mov (.r 2), none⟩])
  (.seq (.region false [] [⟨none, .mov (.v 5), none⟩, ⟨none, .mov (.v 1), none⟩, ⟨none, .mov (.v 2), none⟩, ⟨none, .call false f_spec_l1In [(.r 0), (.r 1), (.r 2)], none⟩, ⟨none, .not (.r 3), none⟩, ⟨none, .mov (.r 4), none⟩, ⟨none, .mov (.v 4), some (5, false)⟩, ⟨none, .bin false .gtr (.r 6) (.c (.int .i64 0)), some (5, false)⟩, ⟨none, .mov (.r 7), some (5, false)⟩, ⟨none, .mov (.v 0), some (8, true)⟩, ⟨none, .mov (.v 4), some (8, true)⟩, ⟨none, .bin false .sub (.r 10) (.c (.int .i64 1)), some (8, true)⟩, ⟨none, .iaddr 1 (.r 9) (.r 11), some (8, true)⟩, ⟨none, .load false 1 (.r 12), some (8, true)⟩, ⟨none, .mov (.v 5), some (8, true)⟩, ⟨none, .bin false .geq (.r 13) (.r 14), some (8, true)⟩, ⟨none, .pick (.r 8) (.r 15) (.c (.bool false)), some (5, false)⟩, ⟨some 10, .pick (.r 5) (.c (.bool true)) (.r 16), none⟩])
  (.cond (.v 10) (.seq (.region false [] [⟨some 3, .mov (.c (.bool false)), none⟩])
  .ret) .skip))))
  (.region false [] [⟨none, .bin false .add (.v 8) (.c (.int .i64 1)), none⟩, ⟨some 8, .mov (.r 0), none⟩])))))))
  (.seq (.region false [] [⟨some 3, .mov (.c (.bool true)), none⟩])
  .ret))),
  [.v 3]⟩
def ir_spec_l13Task : IFun := ⟨[0, 1, 2, 4, 5, 26, 44],
  (.seq (.region false [] [⟨some 2, .box t_impl_Spec 2 (.v 0), none⟩, ⟨some 3, .mov (.c (.bool false)), none⟩])
  (.seq (.region false [] [⟨none, .faddr 1 (.v 2), none⟩, ⟨none, .load false 1 (.r 0), none⟩, ⟨none, .mov (.v 1), none⟩, ⟨none, .iaddr 7 (.r 1) (.r 2), none⟩, ⟨none, .load true 7 (.r 3), none⟩, ⟨some 4, .alloc t_impl_Task [(.int .i64 0), (.int .i64 0), (.nil true 1), (.nil true 1), (.nil true 1), (.nil true 1), (.int .i64 0)], none⟩, ⟨none, .store 7 (.v 4) (.r 4), none⟩])
  (.seq (.seq (.region false [] [⟨none, .faddr 0 (.v 4), none⟩, ⟨none, .load false 1 (.r 0), none⟩, ⟨none, .call false f_spec_l1In [(.r 1), (.c (.int .i64 1)), (.c (.int .i64 2))], none⟩, ⟨none, .not (.r 2), none⟩, ⟨none, .mov (.r 3), none⟩, ⟨none, .faddr 1 (.v 4), some (4, false)⟩, ⟨none, .load false 1 (.r 5), some (4, false)⟩, ⟨none, .call false f_spec_l1In [(.r 6), (.c (.int .i64 1)), (.c (.int .i64 3))], some (4, false)⟩, ⟨none, .not (.r 7), some (4, false)⟩, ⟨none, .pick (.r 4) (.c (.bool true)) (.r 8), none⟩, ⟨none, .mov (.r 9), none⟩, ⟨none, .faddr 6 (.v 4), some (10, false)⟩, ⟨none, .load false 1 (.r 11), some (10, false)⟩, ⟨none, .call false f_spec_l1In [(.r 12), (.c (.int .i64 0)), (.c (.int .i64 3))], some (10, false)⟩, ⟨none, .not (.r 13), some (10, false)⟩, ⟨some 5, .pick (.r 10) (.c (.bool true)) (.r 14), none⟩])
  (.cond (.v 5) (.seq (.region false [] [⟨some 3, .mov (.c (.bool false)), none⟩])
  .ret) .skip))
  (.seq (.seq (.region false [] [⟨none, .faddr 2 (.v 4), none⟩, ⟨none, .load false 1 (.r 0), none⟩, ⟨none, .len false (.r 1), none⟩, ⟨none, .call false f_spec_l1In [(.r 2), (.c (.int .i64 1)), (.c (.int .i64 3))], none⟩, ⟨none, .not (.r 3), none⟩, ⟨none, .mov (.r 4), none⟩, ⟨none, .faddr 3 (.v 4), some (5, false)⟩, ⟨none, .load false 1 (.r 6), some (5, false)⟩, ⟨none, .len false (.r 7), some (5, false)⟩, ⟨none, .call false f_spec_l1In [(.r 8), (.c (.int .i64 1)), (.c (.int .i64 3))], some (5, false)⟩, ⟨none, .not (.r 9), some (5, false)⟩, ⟨none, .pick (.r 5) (.c (.bool true)) (.r 10), none⟩, ⟨none, .mov (.r 11), none⟩, ⟨none, .faddr 5 (.v 4), some (12, false)⟩, ⟨none, .load false 1 (.r 13), some (12, false)⟩, ⟨none, .mov (.v 1), some (12, false)⟩, ⟨none, .call false f_spec_l1Has [(.r 14), (.r 15)], some (12, false)⟩, ⟨some 6, .pick (.r 12) (.c (.bool true)) (.r 16), none⟩])
  (.cond (.v 6) (.seq (.region false [] [⟨some 3, .mov (.c (.bool false)), none⟩])
  .ret) .skip))
  (.seq (.region false [] [⟨none, .faddr 2 (.v 4), none⟩, ⟨none, .load false 1 (.r 0), none⟩, ⟨none, .faddr 0 (.v 2), none⟩, ⟨none, .load false 1 (.r 2), none⟩, ⟨none, .bin false .sub (.r 3) (.c (.int .i64 1)), none⟩, ⟨none, .call false f_spec_l1Rising [(.r 1), (.c (.int .i64 0)), (.r 4)], none⟩, ⟨none, .mov (.r 5), none⟩, ⟨none, .faddr 3 (.v 4), some (6, true)⟩, ⟨none, .load false 1 (.r 7), some (6, true)⟩, ⟨none, .faddr 0 (.v 2), some (6, true)⟩, ⟨none, .load false 1 (.r 9), some (6, true)⟩, ⟨none, .bin false .sub (.r 10) (.c (.int .i64 1)), some (6, true)⟩, ⟨none, .call false f_spec_l1Rising [(.r 8), (.c (.int .i64 0)), (.r 11)], some (6, true)⟩, ⟨none, .pick (.r 6) (.r 12) (.c (.bool false)), none⟩, ⟨none, .mov (.r 13), none⟩, ⟨none, .faddr 4 (.v 4), some (14, true)⟩, ⟨none, .load false 1 (.r 15), some (14, true)⟩, ⟨none, .faddr 0 (.v 2), some (14, true)⟩, ⟨none, .load false 1 (.r 17), some (14, true)⟩, ⟨none, .bin false .sub (.r 18) (.c (.int .i64 1)), some (14, true)⟩, ⟨none, .call false f_spec_l1Rising [(.r 16), (.c (.int .i64 2)), (.r 19)], some (14, true)⟩, ⟨none, .pick (.r 14) (.r 20) (.c (.bool false)), none⟩, ⟨none, .mov (.r 21), none⟩, ⟨none, .faddr 5 (.v 4), some (22, true)⟩, ⟨none, .load false 1 (.r 23), some (22, true)⟩, ⟨none, .faddr 1 (.v 2), some (22, true)⟩, ⟨none, .load false 1 (.r 25), some (22, true)⟩, ⟨none, .len false (.r 26), some (22, true)⟩, ⟨none, .bin false .sub (.r 27) (.c (.int .i64 1)), some (22, true)⟩, ⟨none, .call false f_spec_l1Rising [(.r 24), (.c (.int .i64 0)), (.r 28)], some (22, true)⟩, ⟨none, .pick (.r 22) (.r 29) (.c (.bool false)), none⟩, ⟨some 3, .mov (.r 30), none⟩])
  .ret))))),
  [.v 3]⟩
def ir_spec_l1Own : IFun := ⟨[0, 2],
  (.seq (.region false [] [⟨some 1, .nilrow t_int true 1, none⟩])
  (.seq (.region false [] [⟨none, .bslice false t_int true 1 [], none⟩, ⟨none, .mov (.v 0), none⟩, ⟨none, .append t_int true 1 (.r 0) (.r 1), none⟩, ⟨some 1, .mov (.r 2), none⟩])
  .ret)),
  [.v 1]⟩
def ir_spec_l1Set : IFun := ⟨[0, 2, 3, 4, 9, 17],
  (.seq (.region false [] [⟨some 1, .nilrow t_int true 1, none⟩])
  (.seq (.region false [] [⟨some 2, .nilrow t_int true 1, none⟩])
  (.seq (.seq (.region false [] [⟨some 3, .mov (.c (.int .i64 0)), none⟩])
  (.block 0 (.loop [true, false, true, true, false, false] (.seq (.seq (.region false [] [⟨none, .mov (.v 0), none⟩, ⟨none, .mov (.v 3), none⟩, ⟨none, .conv .u64 (.r 1), none⟩, ⟨none, .bin false .shr (.r 0) (.r 2), none⟩, ⟨some 4, .bin false .gtr (.r 3) (.c (.int .i64 0)), none⟩])
  (.cond (.v 4) .skip (.exit 0)))
  (.seq (.block 1 (.seq (.region false [] [⟨none, .mov (.v 0), none⟩, ⟨none, .mov (.v 3), none⟩, ⟨none, .conv .u64 (.r 1), none⟩, ⟨none, .bin false .shr (.r 0) (.r 2), none⟩, ⟨none, .bin false .and (.r 3) (.c (.int .i64 1)), none⟩, ⟨some 5, .bin false .eql (.r 4) (.c (.int .i64 1)), none⟩])
  (.cond (.v 5) (.region false [] [⟨none, .mov (.v 2), none⟩, ⟨none, .mov (.v 3), none⟩, ⟨none, .bslice false t_int true 1 [(.r 1)], none⟩, ⟨none, .append t_int true 1 (.r 0) (.r 2), none⟩, ⟨some 2, .mov (.r 3), none⟩]) .skip)))
  (.region false [] [⟨none, .mov (.v 3), none⟩, ⟨none, .bin false .add (.r 0) (.c (.int .i64 1)), none⟩, ⟨some 3, .mov (.r 1), none⟩]))))))
  (.seq (.region false [] [⟨none, .mov (.v 2), none⟩, ⟨some 1, .mov (.r 0), none⟩])
  .ret)))),
  [.v 1]⟩
def ir_spec_l13Some : IFun := ⟨[0, 1, 4, 5, 7, 9, 10, 11, 12],
  (.seq (.region false [] [⟨some 2, .nilrow t_int true 1, none⟩])
  (.seq (.region false [] [⟨some 3, .nilrow t_int true 1, none⟩])
  (.seq (.seq (.region false [] [⟨none, .mov (.v 1), none⟩, ⟨some 5, .call false f_spec_l1Set [(.r 0)], none⟩, ⟨some 6, .len false (.v 5), none⟩, ⟨some 7, .mov (.c (.int .i64 0)), none⟩])
  (.block 0 (.loop [true, false, false, true, false, true, true, true, false] (.seq (.region false [] [⟨some 8, .bin false .lss (.v 7) (.v 6), none⟩])
  (.seq (.cond (.v 8) .skip (.exit 0))
  (.seq (.block 1 (.seq (.region false [] [⟨none, .iaddr 1 (.v 5) (.v 7), none⟩, ⟨none, .load false 1 (.r 0), none⟩, ⟨some 4, .mov (.r 1), none⟩])
  (.region false [] [⟨none, .mov (.v 3), none⟩, ⟨none, .mov (.v 0), none⟩, ⟨none, .mov (.v 4), none⟩, ⟨none, .iaddr 1 (.r 1) (.r 2), none⟩, ⟨none, .load false 1 (.r 3), none⟩, ⟨none, .bslice false t_int true 1 [(.r 4)], none⟩, ⟨none, .append t_int true 1 (.r 0) (.r 5), none⟩, ⟨some 3, .mov (.r 6), none⟩])))
  (.region false [] [⟨none, .bin false .add (.v 7) (.c (.int .i64 1)), none⟩, ⟨some 7, .mov (.r 0), none⟩])))))))
  (.seq (.region false [] [⟨none, .mov (.v 3), none⟩, ⟨some 2, .mov (.r 0), none⟩])
  .ret)))),
  [.v 2]⟩
def ir_spec_l13Region : IFun := ⟨[0, 1, 2, 4, 5, 7, 20, 21, 22, 23],
  (.seq (.region false [] [⟨some 2, .box t_impl_Spec 2 (.v 0), none⟩, ⟨some 3, .nilrow t_int true 1, none⟩])
  (.seq (.region false [] [⟨none, .faddr 1 (.v 2), none⟩, ⟨none, .load false 1 (.r 0), none⟩, ⟨none, .mov (.v 1), none⟩, ⟨none, .iaddr 7 (.r 1) (.r 2), none⟩, ⟨none, .faddr 4 (.r 3), none⟩, ⟨none, .load false 1 (.r 4), none⟩, ⟨none, .call false f_spec_l1Own [(.r 5)], none⟩, ⟨some 4, .mov (.r 6), none⟩])
  (.seq (.seq (.region false [] [⟨none, .faddr 1 (.v 2), none⟩, ⟨none, .load false 1 (.r 0), none⟩, ⟨none, .mov (.v 1), none⟩, ⟨none, .iaddr 7 (.r 1) (.r 2), none⟩, ⟨none, .faddr 5 (.r 3), none⟩, ⟨some 6, .load false 1 (.r 4), none⟩, ⟨some 7, .len false (.v 6), none⟩, ⟨some 8, .mov (.c (.int .i64 0)), none⟩])
  (.block 0 (.loop [false, false, true, false, true, false, true, true, true, false] (.seq (.region false [] [⟨some 9, .bin false .lss (.v 8) (.v 7), none⟩])
  (.seq (.cond (.v 9) .skip (.exit 0))
  (.seq (.block 1 (.seq (.region false [] [⟨none, .iaddr 1 (.v 6) (.v 8), none⟩, ⟨none, .load false 1 (.r 0), none⟩, ⟨some 5, .mov (.r 1), none⟩])
  (.region false [] [⟨none, .mov (.v 4), none⟩, ⟨none, .faddr 0 (.v 2), none⟩, ⟨none, .load false 1 (.r 1), none⟩, ⟨none, .mov (.v 5), none⟩, ⟨none, .bin false .add (.r 2) (.r 3), none⟩, ⟨none, .bslice false t_int true 1 [(.r 4)], none⟩, ⟨none, .append t_int true 1 (.r 0) (.r 5), none⟩, ⟨some 4, .mov (.r 6), none⟩])))
  (.region false [] [⟨none, .bin false .add (.v 8) (.c (.int .i64 1)), none⟩, ⟨some 8, .mov (.r 0), none⟩])))))))
  (.seq (.region false [] [⟨none, .mov (.v 4), none⟩, ⟨some 3, .mov (.r 0), none⟩])
  .ret)))),
  [.v 3]⟩
def ir_spec_l13Lay : IFun := ⟨[0, 1, 2, 3, 4, 5, 6, 7, 8, 9, 11, 12, 13, 14, 15, 17, 18, 19, 20, 30, 31, 32, 33, 47, 49, 50, 51, 52, 61, 62, 63, 64, 91, 92, 95, 96, 97, 98, 107, 115, 125, 126, 127, 128],
  (.seq (.region false [] [⟨some 1, .box t_impl_Spec 2 (.v 0), none⟩, ⟨some 2, .alloc t_impl_Flow [(.int .i64 0), (.nil false 3), (.int .i64 0), (.int .i64 0)], none⟩, ⟨some 3, .nilrow t_impl_Move true 3, none⟩])
  (.seq (.region false [] [⟨none, .faddr 0 (.v 1), none⟩, ⟨none, .load false 1 (.r 0), none⟩, ⟨none, .faddr 1 (.v 1), none⟩, ⟨none, .load false 1 (.r 2), none⟩, ⟨none, .len false (.r 3), none⟩, ⟨none, .bin false .add (.r 1) (.r 4), none⟩, ⟨none, .build [(.int .i64 0), (.nil false 3)] [(0, 1, (.r 5))], none⟩, ⟨none, .build [(.int .i64 0), (.nil false 3), (.int .i64 0), (.int .i64 0)] [(0, 2, (.r 6)), (2, 1, (.c (.int .i64 0))), (3, 1, (.c (.int .i64 1)))], none⟩, ⟨some 4, .alloc t_impl_Flow [(.int .i64 0), (.nil false 3), (.int .i64 0), (.int .i64 0)], none⟩, ⟨none, .store 4 (.v 4) (.r 7), none⟩])
  (.seq (.region false [] [⟨some 5, .nilrow t_impl_Move true 3, none⟩])
  (.seq (.seq (.region false [] [⟨none, .faddr 1 (.v 1), none⟩, ⟨some 19, .load false 1 (.r 0), none⟩, ⟨some 20, .len false (.v 19), none⟩, ⟨some 21, .mov (.c (.int .i64 0)), none⟩])
  (.block 0 (.loop [false, true, true, false, true, true, false, false, false, false, false, false, false, false, false, false, false, false, false, true, true, true, false, false, false, false, false, false, false, false, false, false, false, false, false, false, false, false, false, false, false, false, false, false] (.seq (.region false [] [⟨some 22, .bin false .lss (.v 21) (.v 20), none⟩])
  (.seq (.cond (.v 22) .skip (.exit 0))
  (.seq (.block 1 (.seq (.region false [] [⟨none, .mov (.v 21), none⟩, ⟨none, .iaddr 7 (.v 19) (.v 21), none⟩, ⟨none, .load true 7 (.r 1), none⟩, ⟨some 7, .alloc t_impl_Task [(.int .i64 0), (.int .i64 0), (.nil true 1), (.nil true 1), (.nil true 1), (.nil true 1), (.int .i64 0)], none⟩, ⟨some 6, .mov (.r 0), none⟩, ⟨none, .store 7 (.v 7) (.r 2), none⟩])
  (.seq (.region false [] [⟨none, .faddr 0 (.v 1), none⟩, ⟨none, .load false 1 (.r 0), none⟩, ⟨none, .mov (.v 6), none⟩, ⟨none, .bin false .add (.r 1) (.r 2), none⟩, ⟨none, .bslice false t_int true 1 [(.r 3)], none⟩, ⟨some 8, .mov (.r 4), none⟩])
  (.seq (.region false [] [⟨none, .faddr 2 (.v 7), none⟩, ⟨none, .load false 1 (.r 0), none⟩, ⟨none, .bslice false t_sl_int false 1 [(.r 1)], none⟩, ⟨some 9, .mov (.r 2), none⟩])
  (.seq (.seq (.region false [] [⟨none, .faddr 0 (.v 7), none⟩, ⟨none, .load false 1 (.r 0), none⟩, ⟨some 23, .bin false .eql (.r 1) (.c (.int .i64 2)), none⟩])
  (.cond (.v 23) (.seq (.region false [] [⟨some 9, .nilrow t_sl_int false 1, none⟩])
  (.seq (.region false [] [⟨none, .faddr 2 (.v 7), none⟩, ⟨some 24, .load false 1 (.r 0), none⟩, ⟨some 25, .len false (.v 24), none⟩, ⟨some 26, .mov (.c (.int .i64 0)), none⟩])
  (.block 2 (.loop [false, true, true, false, true, true, true, true, true, true, false, false, false, false, false, false, false, false, false, true, true, true, false, false, true, true, true, false, false, false, false, false, false, false, false, false, false, false, false, false, false, false, false, false] (.seq (.region false [] [⟨some 27, .bin false .lss (.v 26) (.v 25), none⟩])
  (.seq (.cond (.v 27) .skip (.exit 2))
  (.seq (.block 3 (.seq (.region false [] [⟨none, .iaddr 1 (.v 24) (.v 26), none⟩, ⟨none, .load false 1 (.r 0), none⟩, ⟨some 10, .mov (.r 1), none⟩])
  (.region false [] [⟨none, .mov (.v 9), none⟩, ⟨none, .mov (.v 10), none⟩, ⟨none, .bslice false t_int true 1 [(.r 1)], none⟩, ⟨none, .bslice false t_sl_int false 1 [(.r 2)], none⟩, ⟨none, .append t_sl_int false 1 (.r 0) (.r 3), none⟩, ⟨some 9, .mov (.r 4), none⟩])))
  (.region false [] [⟨none, .bin false .add (.v 26) (.c (.int .i64 1)), none⟩, ⟨some 26, .mov (.r 0), none⟩])))))))) .skip))
  (.seq (.seq (.region false [] [⟨some 28, .mov (.v 9), none⟩, ⟨some 29, .len false (.v 28), none⟩, ⟨some 30, .mov (.c (.int .i64 0)), none⟩])
  (.block 4 (.loop [false, true, true, false, true, true, true, true, true, false, false, false, false, false, false, false, false, false, false, true, true, true, false, false, false, false, false, false, true, true, true, false, false, false, false, false, false, false, false, false, false, false, false, false] (.seq (.region false [] [⟨some 31, .bin false .lss (.v 30) (.v 29), none⟩])
  (.seq (.cond (.v 31) .skip (.exit 4))
  (.seq (.block 5 (.seq (.region false [] [⟨none, .mov (.v 30), none⟩, ⟨none, .iaddr 1 (.v 28) (.v 30), none⟩, ⟨none, .load false 1 (.r 1), none⟩, ⟨some 11, .mov (.r 0), none⟩, ⟨some 12, .mov (.r 2), none⟩])
  (.seq (.region true [(5, 2), (6, 2), (8, 2)] [⟨none, .faddr 0 (.v 4), none⟩, ⟨none, .faddr 1 (.r 0), none⟩, ⟨none, .load false 1 (.r 1), none⟩, ⟨none, .mov (.v 12), none⟩, ⟨none, .mov (.v 8), none⟩, ⟨none, .call false f_spec_l1Own [(.r 3)], none⟩, ⟨none, .call false f_spec_l1Own [(.r 4)], none⟩, ⟨none, .build [(.nil true 1), (.nil true 1), (.nil true 1)] [(0, 1, (.r 5)), (1, 1, (.r 6))], none⟩, ⟨none, .bslice false t_impl_Trans false 3 [(.r 7)], none⟩, ⟨none, .append t_impl_Trans false 3 (.r 2) (.r 8), none⟩, ⟨none, .faddr 0 (.v 4), none⟩, ⟨none, .faddr 1 (.r 10), none⟩, ⟨none, .store 1 (.r 11) (.r 9), none⟩])
  (.region false [] [⟨none, .mov (.v 5), none⟩, ⟨none, .mov (.v 6), none⟩, ⟨none, .mov (.v 11), none⟩, ⟨none, .build [(.int .i64 0), (.bool false), (.int .i64 0)] [(0, 1, (.r 1)), (1, 1, (.c (.bool true))), (2, 1, (.r 2))], none⟩, ⟨none, .bslice false t_impl_Move true 3 [(.r 3)], none⟩, ⟨none, .append t_impl_Move true 3 (.r 0) (.r 4), none⟩, ⟨some 5, .mov (.r 5), none⟩]))))
  (.region false [] [⟨none, .bin false .add (.v 30) (.c (.int .i64 1)), none⟩, ⟨some 30, .mov (.r 0), none⟩])))))))
  (.seq (.region false [] [⟨none, .faddr 3 (.v 7), none⟩, ⟨none, .load false 1 (.r 0), none⟩, ⟨none, .bslice false t_sl_int false 1 [(.r 1)], none⟩, ⟨some 13, .mov (.r 2), none⟩])
  (.seq (.region false [] [⟨some 14, .mov (.c (.int .i64 0)), none⟩])
  (.seq (.seq (.region false [] [⟨none, .faddr 1 (.v 7), none⟩, ⟨some 32, .load false 1 (.r 0), none⟩])
  (.block 6 (.seq (.region false [] [⟨none, .bin false .eql (.v 32) (.c (.int .i64 2)), none⟩, ⟨some 33, .mov (.r 0), none⟩])
  (.cond (.v 33) (.seq (.region false [] [⟨some 13, .nilrow t_sl_int false 1, none⟩])
  (.seq (.region false [] [⟨none, .faddr 3 (.v 7), none⟩, ⟨some 34, .load false 1 (.r 0), none⟩, ⟨some 35, .len false (.v 34), none⟩, ⟨some 36, .mov (.c (.int .i64 0)), none⟩])
  (.block 7 (.loop [false, true, true, false, true, true, true, false, true, false, false, false, false, true, true, false, false, false, false, true, true, true, false, false, false, false, false, false, false, false, false, false, false, false, true, true, true, false, false, false, false, false, false, false] (.seq (.region false [] [⟨some 37, .bin false .lss (.v 36) (.v 35), none⟩])
  (.seq (.cond (.v 37) .skip (.exit 7))
  (.seq (.block 8 (.seq (.region false [] [⟨none, .iaddr 1 (.v 34) (.v 36), none⟩, ⟨none, .load false 1 (.r 0), none⟩, ⟨some 15, .mov (.r 1), none⟩])
  (.region false [] [⟨none, .mov (.v 13), none⟩, ⟨none, .mov (.v 15), none⟩, ⟨none, .bslice false t_int true 1 [(.r 1)], none⟩, ⟨none, .bslice false t_sl_int false 1 [(.r 2)], none⟩, ⟨none, .append t_sl_int false 1 (.r 0) (.r 3), none⟩, ⟨some 13, .mov (.r 4), none⟩])))
  (.region false [] [⟨none, .bin false .add (.v 36) (.c (.int .i64 1)), none⟩, ⟨some 36, .mov (.r 0), none⟩])))))))) (.seq (.region false [] [⟨none, .bin false .eql (.v 32) (.c (.int .i64 3)), none⟩, ⟨some 38, .mov (.r 0), none⟩])
  (.cond (.v 38) (.seq (.region false [] [⟨some 13, .nilrow t_sl_int false 1, none⟩])
  (.seq (.region false [] [⟨some 14, .mov (.c (.int .i64 1)), none⟩])
  (.seq (.region false [] [⟨some 16, .mov (.c (.int .i64 1)), none⟩])
  (.block 9 (.loop [false, true, true, false, true, true, true, true, true, false, false, false, false, true, true, false, true, false, false, true, true, true, false, false, false, false, false, false, false, false, false, false, false, false, false, false, false, false, false, false, false, false, false, false] (.seq (.seq (.region false [] [⟨none, .mov (.v 16), none⟩, ⟨none, .faddr 3 (.v 7), none⟩, ⟨none, .load false 1 (.r 1), none⟩, ⟨none, .len false (.r 2), none⟩, ⟨none, .conv .u64 (.r 3), none⟩, ⟨none, .bin false .shl (.c (.int .i64 1)) (.r 4), none⟩, ⟨some 39, .bin false .lss (.r 0) (.r 5), none⟩])
  (.cond (.v 39) .skip (.exit 9)))
  (.seq (.block 10 (.region false [] [⟨none, .mov (.v 13), none⟩, ⟨none, .faddr 3 (.v 7), none⟩, ⟨none, .load false 1 (.r 1), none⟩, ⟨none, .mov (.v 16), none⟩, ⟨none, .call false f_spec_l13Some [(.r 2), (.r 3)], none⟩, ⟨none, .bslice false t_sl_int false 1 [(.r 4)], none⟩, ⟨none, .append t_sl_int false 1 (.r 0) (.r 5), none⟩, ⟨some 13, .mov (.r 6), none⟩]))
  (.region false [] [⟨none, .mov (.v 16), none⟩, ⟨none, .bin false .add (.r 0) (.c (.int .i64 1)), none⟩, ⟨some 16, .mov (.r 1), none⟩])))))))) .skip))))))
  (.seq (.region false [] [⟨some 40, .mov (.v 13), none⟩, ⟨some 41, .len false (.v 40), none⟩, ⟨some 42, .mov (.c (.int .i64 0)), none⟩])
  (.block 11 (.loop [false, true, true, false, true, true, true, false, true, false, false, false, false, false, true, false, false, false, false, true, true, true, false, false, false, false, false, false, false, false, false, false, false, false, false, false, false, false, false, false, true, true, true, false] (.seq (.region false [] [⟨some 43, .bin false .lss (.v 42) (.v 41), none⟩])
  (.seq (.cond (.v 43) .skip (.exit 11))
  (.seq (.block 12 (.seq (.region false [] [⟨none, .mov (.v 42), none⟩, ⟨none, .iaddr 1 (.v 40) (.v 42), none⟩, ⟨none, .load false 1 (.r 1), none⟩, ⟨some 17, .mov (.r 0), none⟩, ⟨some 18, .mov (.r 2), none⟩])
  (.seq (.region true [(7, 2), (7, 5), (8, 2), (8, 5), (9, 2), (11, 2)] [⟨none, .faddr 0 (.v 4), none⟩, ⟨none, .faddr 1 (.r 0), none⟩, ⟨none, .load false 1 (.r 1), none⟩, ⟨none, .mov (.v 8), none⟩, ⟨none, .mov (.v 18), none⟩, ⟨none, .load true 2 (.v 1), none⟩, ⟨none, .mov (.v 6), none⟩, ⟨none, .call false f_spec_l1Own [(.r 3)], none⟩, ⟨none, .call false f_spec_l1Own [(.r 4)], none⟩, ⟨none, .call false f_spec_l13Region [(.r 5), (.r 6)], none⟩, ⟨none, .build [(.nil true 1), (.nil true 1), (.nil true 1)] [(0, 1, (.r 7)), (1, 1, (.r 8)), (2, 1, (.r 9))], none⟩, ⟨none, .bslice false t_impl_Trans false 3 [(.r 10)], none⟩, ⟨none, .append t_impl_Trans false 3 (.r 2) (.r 11), none⟩, ⟨none, .faddr 0 (.v 4), none⟩, ⟨none, .faddr 1 (.r 13), none⟩, ⟨none, .store 1 (.r 14) (.r 12), none⟩])
  (.region false [] [⟨none, .mov (.v 5), none⟩, ⟨none, .mov (.v 6), none⟩, ⟨none, .mov (.v 14), none⟩, ⟨none, .mov (.v 17), none⟩, ⟨none, .bin false .add (.r 2) (.r 3), none⟩, ⟨none, .build [(.int .i64 0), (.bool false), (.int .i64 0)] [(0, 1, (.r 1)), (2, 1, (.r 4))], none⟩, ⟨none, .bslice false t_impl_Move true 3 [(.r 5)], none⟩, ⟨none, .append t_impl_Move true 3 (.r 0) (.r 6), none⟩, ⟨some 5, .mov (.r 7), none⟩]))))
  (.region false [] [⟨none, .bin false .add (.v 42) (.c (.int .i64 1)), none⟩, ⟨some 42, .mov (.r 0), none⟩]))))))))))))))))
  (.region false [] [⟨none, .bin false .add (.v 21) (.c (.int .i64 1)), none⟩, ⟨some 21, .mov (.r 0), none⟩])))))))
  (.seq (.region false [] [⟨none, .load true 4 (.v 4), none⟩, ⟨none, .mov (.v 5), none⟩, ⟨none, .store 4 (.v 2) (.r 0), none⟩, ⟨some 3, .mov (.r 1), none⟩])
  .ret))))),
  [.cell true 4 2, .v 3]⟩
def ir_spec_l1Places : IFun := ⟨[0, 2],
  (.seq (.region false [] [⟨some 1, .mov (.c (.bool false)), none⟩])
  (.seq (.region false [] [⟨none, .mov (.v 0), none⟩, ⟨none, .call false f_spec_l1In [(.r 0), (.c (.int .i64 1)), (.c (.int .i64 16))], none⟩, ⟨some 1, .mov (.r 1), none⟩])
  .ret)),
  [.v 1]⟩
def ir_spec_GoodNet : IFun := ⟨[0, 1, 2, 4, 14, 16, 17, 18, 19, 52],
  (.seq (.region false [] [⟨some 1, .box t_impl_Net 2 (.v 0), none⟩, ⟨some 2, .mov (.c (.bool false)), none⟩])
  (.seq (.seq (.region false [] [⟨none, .faddr 0 (.v 1), none⟩, ⟨none, .load false 1 (.r 0), none⟩, ⟨none, .call false f_spec_l1Places [(.r 1)], none⟩, ⟨none, .not (.r 2), none⟩, ⟨none, .mov (.r 3), none⟩, ⟨none, .faddr 1 (.v 1), some (4, false)⟩, ⟨none, .load false 1 (.r 5), some (4, false)⟩, ⟨none, .len false (.r 6), some (4, false)⟩, ⟨none, .bin false .gtr (.r 7) (.c (.int .i64 24)), some (4, false)⟩, ⟨some 4, .pick (.r 4) (.c (.bool true)) (.r 8), none⟩])
  (.cond (.v 4) (.seq (.region false [] [⟨some 2, .mov (.c (.bool false)), none⟩])
  .ret) .skip))
  (.seq (.seq (.region false [] [⟨none, .faddr 1 (.v 1), none⟩, ⟨some 5, .load false 1 (.r 0), none⟩, ⟨some 6, .len false (.v 5), none⟩, ⟨some 7, .mov (.c (.int .i64 0)), none⟩])
  (.block 0 (.loop [false, true, false, false, false, true, true, true, false, false] (.seq (.region false [] [⟨some 8, .bin false .lss (.v 7) (.v 6), none⟩])
  (.seq (.cond (.v 8) .skip (.exit 0))
  (.seq (.block 1 (.seq (.region false [] [⟨none, .iaddr 3 (.v 5) (.v 7), none⟩, ⟨none, .load true 3 (.r 0), none⟩, ⟨some 3, .alloc t_impl_Trans [(.nil true 1), (.nil true 1), (.nil true 1)], none⟩, ⟨none, .store 3 (.v 3) (.r 1), none⟩])
  (.seq (.region false [] [⟨none, .faddr 0 (.v 3), none⟩, ⟨none, .load false 1 (.r 0), none⟩, ⟨none, .len false (.r 1), none⟩, ⟨none, .bin false .eql (.r 2) (.c (.int .i64 0)), none⟩, ⟨none, .mov (.r 3), none⟩, ⟨none, .faddr 0 (.v 3), some (4, false)⟩, ⟨none, .load false 1 (.r 5), some (4, false)⟩, ⟨none, .faddr 0 (.v 1), some (4, false)⟩, ⟨none, .load false 1 (.r 7), some (4, false)⟩, ⟨none, .bin false .sub (.r 8) (.c (.int .i64 1)), some (4, false)⟩, ⟨none, .call false f_spec_l1Rising [(.r 6), (.c (.int .i64 0)), (.r 9)], some (4, false)⟩, ⟨none, .not (.r 10), some (4, false)⟩, ⟨none, .pick (.r 4) (.c (.bool true)) (.r 11), none⟩, ⟨none, .mov (.r 12), none⟩, ⟨none, .faddr 1 (.v 3), some (13, false)⟩, ⟨none, .load false 1 (.r 14), some (13, false)⟩, ⟨none, .faddr 0 (.v 1), some (13, false)⟩, ⟨none, .load false 1 (.r 16), some (13, false)⟩, ⟨none, .bin false .sub (.r 17) (.c (.int .i64 1)), some (13, false)⟩, ⟨none, .call false f_spec_l1Rising [(.r 15), (.c (.int .i64 0)), (.r 18)], some (13, false)⟩, ⟨none, .not (.r 19), some (13, false)⟩, ⟨none, .pick (.r 13) (.c (.bool true)) (.r 20), none⟩, ⟨none, .mov (.r 21), none⟩, ⟨none, .faddr 2 (.v 3), some (22, false)⟩, ⟨none, .load false 1 (.r 23), some (22, false)⟩, ⟨none, .faddr 0 (.v 1), some (22, false)⟩, ⟨none, .load false 1 (.r 25), some (22, false)⟩, ⟨none, .bin false .sub (.r 26) (.c (.int .i64 1)), some (22, false)⟩, ⟨none, .call false f_spec_l1Rising [(.r 24), (.c (.int .i64 0)), (.r 27)], some (22, false)⟩, ⟨none, .not (.r 28), some (22, false)⟩, ⟨some 9, .pick (.r 22) (.c (.bool true)) (.r 29), none⟩])
  (.cond (.v 9) (.seq (.region false [] [⟨some 2, .mov (.c (.bool false)), none⟩])
  .ret) .skip))))
  (.region false [] [⟨none, .bin false .add (.v 7) (.c (.int .i64 1)), none⟩, ⟨some 7, .mov (.r 0), none⟩])))))))
  (.seq (.region false [] [⟨some 2, .mov (.c (.bool true)), none⟩])
  .ret)))),
  [.v 2]⟩
def ir_spec_l3Forward : IFun := ⟨[0, 1, 2, 4, 5, 6, 7, 8, 9, 10, 11, 13, 15, 26, 28, 29, 30, 31, 36, 37, 38, 39, 57, 62, 63, 64, 65],
  (.seq (.region false [] [⟨some 2, .box t_impl_Net 2 (.v 0), none⟩, ⟨some 3, .nilrow t_bool true 1, none⟩, ⟨some 4, .nilrow t_bool true 1, none⟩])
  (.seq (.region false [] [⟨none, .faddr 0 (.v 2), none⟩, ⟨none, .load false 1 (.r 0), none⟩, ⟨none, .mk t_bool true 1 (.bool false) (.r 1), none⟩, ⟨some 5, .mov (.r 2), none⟩])
  (.seq (.region false [] [⟨none, .faddr 1 (.v 2), none⟩, ⟨none, .load false 1 (.r 0), none⟩, ⟨none, .len false (.r 1), none⟩, ⟨none, .mk t_bool true 1 (.bool false) (.r 2), none⟩, ⟨some 6, .mov (.r 3), none⟩])
  (.seq (.region false [] [⟨none, .mov (.v 5), none⟩, ⟨none, .mov (.v 1), none⟩, ⟨none, .iaddr 1 (.r 0) (.r 1), none⟩, ⟨none, .store 1 (.r 2) (.c (.bool true)), none⟩])
  (.seq (.seq (.region false [] [⟨some 7, .mov (.c (.bool true)), none⟩])
  (.block 0 (.loop [false, false, true, false, false, true, true, true, false, false, false, false, false, false, false, false, false, false, false, false, false, false, false, false, false, false, false] (.seq (.seq (.region false [] [⟨some 13, .mov (.v 7), none⟩])
  (.cond (.v 13) .skip (.exit 0)))
  (.block 1 (.seq (.region false [] [⟨some 7, .mov (.c (.bool false)), none⟩])
  (.seq (.region false [] [⟨none, .faddr 1 (.v 2), none⟩, ⟨some 14, .load false 1 (.r 0), none⟩, ⟨some 15, .len false (.v 14), none⟩, ⟨some 16, .mov (.c (.int .i64 0)), none⟩])
  (.block 2 (.loop [false, false, true, false, false, true, true, true, false, false, false, false, false, false, true, true, true, false, false, false, false, false, false, false, false, false, false] (.seq (.region false [] [⟨some 17, .bin false .lss (.v 16) (.v 15), none⟩])
  (.seq (.cond (.v 17) .skip (.exit 2))
  (.seq (.block 3 (.seq (.region false [] [⟨none, .mov (.v 16), none⟩, ⟨none, .iaddr 3 (.v 14) (.v 16), none⟩, ⟨none, .load true 3 (.r 1), none⟩, ⟨some 9, .alloc t_impl_Trans [(.nil true 1), (.nil true 1), (.nil true 1)], none⟩, ⟨some 8, .mov (.r 0), none⟩, ⟨none, .store 3 (.v 9) (.r 2), none⟩])
  (.seq (.region false [] [⟨some 10, .mov (.c (.bool false)), none⟩])
  (.seq (.seq (.region false [] [⟨none, .faddr 0 (.v 9), none⟩, ⟨some 18, .load false 1 (.r 0), none⟩, ⟨some 19, .len false (.v 18), none⟩, ⟨some 20, .mov (.c (.int .i64 0)), none⟩])
  (.block 4 (.loop [false, false, true, false, false, true, true, true, true, true, true, false, false, false, true, true, true, false, true, true, true, false, false, false, false, false, false] (.seq (.region false [] [⟨some 21, .bin false .lss (.v 20) (.v 19), none⟩])
  (.seq (.cond (.v 21) .skip (.exit 4))
  (.seq (.block 5 (.seq (.region false [] [⟨none, .iaddr 1 (.v 18) (.v 20), none⟩, ⟨none, .load false 1 (.r 0), none⟩, ⟨some 11, .mov (.r 1), none⟩])
  (.region false [] [⟨none, .mov (.v 10), none⟩, ⟨none, .mov (.r 0), none⟩, ⟨none, .mov (.v 5), some (1, false)⟩, ⟨none, .mov (.v 11), some (1, false)⟩, ⟨none, .iaddr 1 (.r 2) (.r 3), some (1, false)⟩, ⟨none, .load false 1 (.r 4), some (1, false)⟩, ⟨none, .pick (.r 1) (.c (.bool true)) (.r 5), none⟩, ⟨some 10, .mov (.r 6), none⟩])))
  (.region false [] [⟨none, .bin false .add (.v 20) (.c (.int .i64 1)), none⟩, ⟨some 20, .mov (.r 0), none⟩])))))))
  (.seq (.seq (.region false [] [⟨none, .mov (.v 10), none⟩, ⟨none, .not (.r 0), none⟩, ⟨none, .mov (.r 1), none⟩, ⟨none, .mov (.v 6), some (2, false)⟩, ⟨none, .mov (.v 8), some (2, false)⟩, ⟨none, .iaddr 1 (.r 3) (.r 4), some (2, false)⟩, ⟨none, .load false 1 (.r 5), some (2, false)⟩, ⟨some 22, .pick (.r 2) (.c (.bool true)) (.r 6), none⟩])
  (.cond (.v 22) (.exit 3) .skip))
  (.seq (.region false [] [⟨none, .mov (.v 6), none⟩, ⟨none, .mov (.v 8), none⟩, ⟨none, .iaddr 1 (.r 0) (.r 1), none⟩, ⟨none, .store 1 (.r 2) (.c (.bool true)), none⟩])
  (.seq (.region false [] [⟨some 7, .mov (.c (.bool true)), none⟩])
  (.seq (.region false [] [⟨none, .faddr 1 (.v 9), none⟩, ⟨some 23, .load false 1 (.r 0), none⟩, ⟨some 24, .len false (.v 23), none⟩, ⟨some 25, .mov (.c (.int .i64 0)), none⟩])
  (.block 6 (.loop [false, false, true, false, false, true, true, true, false, false, false, false, false, false, true, true, true, false, false, false, false, false, false, true, true, true, false] (.seq (.region false [] [⟨some 26, .bin false .lss (.v 25) (.v 24), none⟩])
  (.seq (.cond (.v 26) .skip (.exit 6))
  (.seq (.block 7 (.seq (.region false [] [⟨none, .iaddr 1 (.v 23) (.v 25), none⟩, ⟨none, .load false 1 (.r 0), none⟩, ⟨some 12, .mov (.r 1), none⟩])
  (.region false [] [⟨none, .mov (.v 5), none⟩, ⟨none, .mov (.v 12), none⟩, ⟨none, .iaddr 1 (.r 0) (.r 1), none⟩, ⟨none, .store 1 (.r 2) (.c (.bool true)), none⟩])))
  (.region false [] [⟨none, .bin false .add (.v 25) (.c (.int .i64 1)), none⟩, ⟨some 25, .mov (.r 0), none⟩]))))))))))))))
  (.region false [] [⟨none, .bin false .add (.v 16) (.c (.int .i64 1)), none⟩, ⟨some 16, .mov (.r 0), none⟩])))))))))))))
  (.seq (.region false [] [⟨none, .mov (.v 5), none⟩, ⟨none, .mov (.v 6), none⟩, ⟨some 3, .mov (.r 0), none⟩, ⟨some 4, .mov (.r 1), none⟩])
  .ret)))))),
  [.v 3, .v 4]⟩
def ir_spec_l3Back : IFun := ⟨[0, 1, 2, 4, 5, 6, 7, 8, 9, 10, 11, 13, 15, 26, 28, 29, 30, 31, 36, 37, 38, 39, 57, 62, 63, 64, 65],
  (.seq (.region false [] [⟨some 2, .box t_impl_Net 2 (.v 0), none⟩, ⟨some 3, .nilrow t_bool true 1, none⟩, ⟨some 4, .nilrow t_bool true 1, none⟩])
  (.seq (.region false [] [⟨none, .faddr 0 (.v 2), none⟩, ⟨none, .load false 1 (.r 0), none⟩, ⟨none, .mk t_bool true 1 (.bool false) (.r 1), none⟩, ⟨some 5, .mov (.r 2), none⟩])
  (.seq (.region false [] [⟨none, .faddr 1 (.v 2), none⟩, ⟨none, .load false 1 (.r 0), none⟩, ⟨none, .len false (.r 1), none⟩, ⟨none, .mk t_bool true 1 (.bool false) (.r 2), none⟩, ⟨some 6, .mov (.r 3), none⟩])
  (.seq (.region false [] [⟨none, .mov (.v 5), none⟩, ⟨none, .mov (.v 1), none⟩, ⟨none, .iaddr 1 (.r 0) (.r 1), none⟩, ⟨none, .store 1 (.r 2) (.c (.bool true)), none⟩])
  (.seq (.seq (.region false [] [⟨some 7, .mov (.c (.bool true)), none⟩])
  (.block 0 (.loop [false, false, true, false, false, true, true, true, false, false, false, false, false, false, false, false, false, false, false, false, false, false, false, false, false, false, false] (.seq (.seq (.region false [] [⟨some 13, .mov (.v 7), none⟩])
  (.cond (.v 13) .skip (.exit 0)))
  (.block 1 (.seq (.region false [] [⟨some 7, .mov (.c (.bool false)), none⟩])
  (.seq (.region false [] [⟨none, .faddr 1 (.v 2), none⟩, ⟨some 14, .load false 1 (.r 0), none⟩, ⟨some 15, .len false (.v 14), none⟩, ⟨some 16, .mov (.c (.int .i64 0)), none⟩])
  (.block 2 (.loop [false, false, true, false, false, true, true, true, false, false, false, false, false, false, true, true, true, false, false, false, false, false, false, false, false, false, false] (.seq (.region false [] [⟨some 17, .bin false .lss (.v 16) (.v 15), none⟩])
  (.seq (.cond (.v 17) .skip (.exit 2))
  (.seq (.block 3 (.seq (.region false [] [⟨none, .mov (.v 16), none⟩, ⟨none, .iaddr 3 (.v 14) (.v 16), none⟩, ⟨none, .load true 3 (.r 1), none⟩, ⟨some 9, .alloc t_impl_Trans [(.nil true 1), (.nil true 1), (.nil true 1)], none⟩, ⟨some 8, .mov (.r 0), none⟩, ⟨none, .store 3 (.v 9) (.r 2), none⟩])
  (.seq (.region false [] [⟨some 10, .mov (.c (.bool false)), none⟩])
  (.seq (.seq (.region false [] [⟨none, .faddr 1 (.v 9), none⟩, ⟨some 18, .load false 1 (.r 0), none⟩, ⟨some 19, .len false (.v 18), none⟩, ⟨some 20, .mov (.c (.int .i64 0)), none⟩])
  (.block 4 (.loop [false, false, true, false, false, true, true, true, true, true, true, false, false, false, true, true, true, false, true, true, true, false, false, false, false, false, false] (.seq (.region false [] [⟨some 21, .bin false .lss (.v 20) (.v 19), none⟩])
  (.seq (.cond (.v 21) .skip (.exit 4))
  (.seq (.block 5 (.seq (.region false [] [⟨none, .iaddr 1 (.v 18) (.v 20), none⟩, ⟨none, .load false 1 (.r 0), none⟩, ⟨some 11, .mov (.r 1), none⟩])
  (.region false [] [⟨none, .mov (.v 10), none⟩, ⟨none, .mov (.r 0), none⟩, ⟨none, .mov (.v 5), some (1, false)⟩, ⟨none, .mov (.v 11), some (1, false)⟩, ⟨none, .iaddr 1 (.r 2) (.r 3), some (1, false)⟩, ⟨none, .load false 1 (.r 4), some (1, false)⟩, ⟨none, .pick (.r 1) (.c (.bool true)) (.r 5), none⟩, ⟨some 10, .mov (.r 6), none⟩])))
  (.region false [] [⟨none, .bin false .add (.v 20) (.c (.int .i64 1)), none⟩, ⟨some 20, .mov (.r 0), none⟩])))))))
  (.seq (.seq (.region false [] [⟨none, .mov (.v 10), none⟩, ⟨none, .not (.r 0), none⟩, ⟨none, .mov (.r 1), none⟩, ⟨none, .mov (.v 6), some (2, false)⟩, ⟨none, .mov (.v 8), some (2, false)⟩, ⟨none, .iaddr 1 (.r 3) (.r 4), some (2, false)⟩, ⟨none, .load false 1 (.r 5), some (2, false)⟩, ⟨some 22, .pick (.r 2) (.c (.bool true)) (.r 6), none⟩])
  (.cond (.v 22) (.exit 3) .skip))
  (.seq (.region false [] [⟨none, .mov (.v 6), none⟩, ⟨none, .mov (.v 8), none⟩, ⟨none, .iaddr 1 (.r 0) (.r 1), none⟩, ⟨none, .store 1 (.r 2) (.c (.bool true)), none⟩])
  (.seq (.region false [] [⟨some 7, .mov (.c (.bool true)), none⟩])
  (.seq (.region false [] [⟨none, .faddr 0 (.v 9), none⟩, ⟨some 23, .load false 1 (.r 0), none⟩, ⟨some 24, .len false (.v 23), none⟩, ⟨some 25, .mov (.c (.int .i64 0)), none⟩])
  (.block 6 (.loop [false, false, true, false, false, true, true, true, false, false, false, false, false, false, true, true, true, false, false, false, false, false, false, true, true, true, false] (.seq (.region false [] [⟨some 26, .bin false .lss (.v 25) (.v 24), none⟩])
  (.seq (.cond (.v 26) .skip (.exit 6))
  (.seq (.block 7 (.seq (.region false [] [⟨none, .iaddr 1 (.v 23) (.v 25), none⟩, ⟨none, .load false 1 (.r 0), none⟩, ⟨some 12, .mov (.r 1), none⟩])
  (.region false [] [⟨none, .mov (.v 5), none⟩, ⟨none, .mov (.v 12), none⟩, ⟨none, .iaddr 1 (.r 0) (.r 1), none⟩, ⟨none, .store 1 (.r 2) (.c (.bool true)), none⟩])))
  (.region false [] [⟨none, .bin false .add (.v 25) (.c (.int .i64 1)), none⟩, ⟨some 25, .mov (.r 0), none⟩]))))))))))))))
  (.region false [] [⟨none, .bin false .add (.v 16) (.c (.int .i64 1)), none⟩, ⟨some 16, .mov (.r 0), none⟩])))))))))))))
  (.seq (.region false [] [⟨none, .mov (.v 5), none⟩, ⟨none, .mov (.v 6), none⟩, ⟨some 3, .mov (.r 0), none⟩, ⟨some 4, .mov (.r 1), none⟩])
  .ret)))))),
  [.v 3, .v 4]⟩
def ir_spec_l3Both : IFun := ⟨[0, 1, 4, 5, 6, 8, 9, 10, 21],
  (.seq (.region false [] [⟨some 2, .nilrow t_int true 1, none⟩])
  (.seq (.region false [] [⟨some 3, .nilrow t_int true 1, none⟩])
  (.seq (.seq (.region false [] [⟨none, .mov (.v 0), none⟩, ⟨some 5, .len false (.r 0), none⟩, ⟨some 6, .mov (.c (.int .i64 0)), none⟩])
  (.block 0 (.loop [true, true, false, true, false, true, true, false, false] (.seq (.region false [] [⟨some 7, .bin false .lss (.v 6) (.v 5), none⟩])
  (.seq (.cond (.v 7) .skip (.exit 0))
  (.seq (.block 1 (.seq (.region false [] [⟨none, .mov (.v 6), none⟩, ⟨some 4, .mov (.r 0), none⟩])
  (.seq (.region false [] [⟨none, .mov (.v 0), none⟩, ⟨none, .mov (.v 4), none⟩, ⟨none, .iaddr 1 (.r 0) (.r 1), none⟩, ⟨none, .load false 1 (.r 2), none⟩, ⟨none, .mov (.r 3), none⟩, ⟨none, .mov (.v 1), some (4, true)⟩, ⟨none, .mov (.v 4), some (4, true)⟩, ⟨none, .iaddr 1 (.r 5) (.r 6), some (4, true)⟩, ⟨none, .load false 1 (.r 7), some (4, true)⟩, ⟨some 8, .pick (.r 4) (.r 8) (.c (.bool false)), none⟩])
  (.cond (.v 8) (.region false [] [⟨none, .mov (.v 3), none⟩, ⟨none, .mov (.v 4), none⟩, ⟨none, .bslice false t_int true 1 [(.r 1)], none⟩, ⟨none, .append t_int true 1 (.r 0) (.r 2), none⟩, ⟨some 3, .mov (.r 3), none⟩]) .skip))))
  (.region false [] [⟨none, .bin false .add (.v 6) (.c (.int .i64 1)), none⟩, ⟨some 6, .mov (.r 0), none⟩])))))))
  (.seq (.region false [] [⟨none, .mov (.v 3), none⟩, ⟨some 2, .mov (.r 0), none⟩])
  .ret)))),
  [.v 2]⟩
def ir_spec_OnWay : IFun := ⟨[0, 1, 2, 3, 6, 7, 8, 9, 10, 11, 12, 31],
  (.seq (.region false [] [⟨some 3, .box t_impl_Net 2 (.v 0), none⟩, ⟨some 4, .nilrow t_int true 1, none⟩, ⟨some 5, .nilrow t_int true 1, none⟩, ⟨some 6, .mov (.c (.bool false)), none⟩])
  (.seq (.seq (.region false [] [⟨none, .load true 2 (.v 3), none⟩, ⟨none, .call false f_spec_GoodNet [(.r 0)], none⟩, ⟨none, .not (.r 1), none⟩, ⟨none, .mov (.r 2), none⟩, ⟨none, .mov (.v 1), some (3, false)⟩, ⟨none, .faddr 0 (.v 3), some (3, false)⟩, ⟨none, .load false 1 (.r 5), some (3, false)⟩, ⟨none, .bin false .sub (.r 6) (.c (.int .i64 1)), some (3, false)⟩, ⟨none, .call false f_spec_l1In [(.r 4), (.c (.int .i64 0)), (.r 7)], some (3, false)⟩, ⟨none, .not (.r 8), some (3, false)⟩, ⟨none, .pick (.r 3) (.c (.bool true)) (.r 9), none⟩, ⟨none, .mov (.r 10), none⟩, ⟨none, .mov (.v 2), some (11, false)⟩, ⟨none, .faddr 0 (.v 3), some (11, false)⟩, ⟨none, .load false 1 (.r 13), some (11, false)⟩, ⟨none, .bin false .sub (.r 14) (.c (.int .i64 1)), some (11, false)⟩, ⟨none, .call false f_spec_l1In [(.r 12), (.c (.int .i64 0)), (.r 15)], some (11, false)⟩, ⟨none, .not (.r 16), some (11, false)⟩, ⟨some 11, .pick (.r 11) (.c (.bool true)) (.r 17), none⟩])
  (.cond (.v 11) (.seq (.region false [] [⟨some 4, .nilrow t_int true 1, none⟩, ⟨some 5, .nilrow t_int true 1, none⟩, ⟨some 6, .mov (.c (.bool false)), none⟩])
  .ret) .skip))
  (.seq (.region false [] [⟨none, .load true 2 (.v 3), none⟩, ⟨none, .mov (.v 1), none⟩, ⟨none, .call false f_spec_l3Forward [(.r 0), (.r 1)], none⟩, ⟨none, .mov (.r 2), none⟩, ⟨none, .extract (.r 3) 0, none⟩, ⟨none, .extract (.r 3) 1, none⟩, ⟨some 7, .mov (.r 4), none⟩, ⟨some 8, .mov (.r 5), none⟩])
  (.seq (.region false [] [⟨none, .load true 2 (.v 3), none⟩, ⟨none, .mov (.v 2), none⟩, ⟨none, .call false f_spec_l3Back [(.r 0), (.r 1)], none⟩, ⟨none, .mov (.r 2), none⟩, ⟨none, .extract (.r 3) 0, none⟩, ⟨none, .extract (.r 3) 1, none⟩, ⟨some 9, .mov (.r 4), none⟩, ⟨some 10, .mov (.r 5), none⟩])
  (.seq (.region false [] [⟨none, .mov (.v 7), none⟩, ⟨none, .mov (.v 9), none⟩, ⟨none, .call false f_spec_l3Both [(.r 0), (.r 1)], none⟩, ⟨none, .mov (.v 8), none⟩, ⟨none, .mov (.v 10), none⟩, ⟨none, .call false f_spec_l3Both [(.r 3), (.r 4)], none⟩, ⟨some 4, .mov (.r 2), none⟩, ⟨some 5, .mov (.r 5), none⟩, ⟨some 6, .mov (.c (.bool true)), none⟩])
  .ret))))),
  [.v 4, .v 5, .v 6]⟩
def ir_spec_GoodFlow : IFun := ⟨[0, 1, 2, 3, 4, 5, 7, 44, 47, 48, 49, 50, 78],
  (.seq (.region false [] [⟨some 1, .box t_impl_Flow 4 (.v 0), none⟩, ⟨some 2, .mov (.c (.bool false)), none⟩])
  (.seq (.region false [] [⟨none, .faddr 0 (.v 1), none⟩, ⟨none, .load true 2 (.r 0), none⟩, ⟨none, .faddr 2 (.v 1), none⟩, ⟨none, .load false 1 (.r 2), none⟩, ⟨none, .faddr 3 (.v 1), none⟩, ⟨none, .load false 1 (.r 4), none⟩, ⟨none, .call false f_spec_OnWay [(.r 1), (.r 3), (.r 5)], none⟩, ⟨none, .mov (.r 6), none⟩, ⟨none, .extract (.r 7) 0, none⟩, ⟨none, .extract (.r 7) 1, none⟩, ⟨none, .extract (.r 7) 2, none⟩, ⟨some 3, .mov (.r 8), none⟩, ⟨some 4, .mov (.r 9), none⟩, ⟨some 5, .mov (.r 10), none⟩])
  (.seq (.seq (.region false [] [⟨none, .mov (.v 5), none⟩, ⟨none, .not (.r 0), none⟩, ⟨none, .mov (.r 1), none⟩, ⟨none, .faddr 2 (.v 1), some (2, false)⟩, ⟨none, .load false 1 (.r 3), some (2, false)⟩, ⟨none, .faddr 3 (.v 1), some (2, false)⟩, ⟨none, .load false 1 (.r 5), some (2, false)⟩, ⟨none, .bin false .eql (.r 4) (.r 6), some (2, false)⟩, ⟨none, .pick (.r 2) (.c (.bool true)) (.r 7), none⟩, ⟨none, .mov (.r 8), none⟩, ⟨none, .mov (.v 3), some (9, false)⟩, ⟨none, .len false (.r 10), some (9, false)⟩, ⟨none, .faddr 0 (.v 1), some (9, false)⟩, ⟨none, .faddr 0 (.r 12), some (9, false)⟩, ⟨none, .load false 1 (.r 13), some (9, false)⟩, ⟨none, .bin false .neq (.r 11) (.r 14), some (9, false)⟩, ⟨none, .pick (.r 9) (.c (.bool true)) (.r 15), none⟩, ⟨none, .mov (.r 16), none⟩, ⟨none, .mov (.v 4), some (17, false)⟩, ⟨none, .len false (.r 18), some (17, false)⟩, ⟨none, .faddr 0 (.v 1), some (17, false)⟩, ⟨none, .faddr 1 (.r 20), some (17, false)⟩, ⟨none, .load false 1 (.r 21), some (17, false)⟩, ⟨none, .len false (.r 22), some (17, false)⟩, ⟨none, .bin false .neq (.r 19) (.r 23), some (17, false)⟩, ⟨some 7, .pick (.r 17) (.c (.bool true)) (.r 24), none⟩])
  (.cond (.v 7) (.seq (.region false [] [⟨some 2, .mov (.c (.bool false)), none⟩])
  .ret) .skip))
  (.seq (.seq (.region false [] [⟨none, .faddr 0 (.v 1), none⟩, ⟨none, .faddr 1 (.r 0), none⟩, ⟨some 8, .load false 1 (.r 1), none⟩, ⟨some 9, .len false (.v 8), none⟩, ⟨some 10, .mov (.c (.int .i64 0)), none⟩])
  (.block 0 (.loop [false, true, false, false, false, false, false, false, true, true, true, false, false] (.seq (.region false [] [⟨some 11, .bin false .lss (.v 10) (.v 9), none⟩])
  (.seq (.cond (.v 11) .skip (.exit 0))
  (.seq (.block 1 (.seq (.region false [] [⟨none, .iaddr 3 (.v 8) (.v 10), none⟩, ⟨none, .load true 3 (.r 0), none⟩, ⟨some 6, .alloc t_impl_Trans [(.nil true 1), (.nil true 1), (.nil true 1)], none⟩, ⟨none, .store 3 (.v 6) (.r 1), none⟩])
  (.seq (.region false [] [⟨none, .faddr 1 (.v 6), none⟩, ⟨none, .load false 1 (.r 0), none⟩, ⟨none, .faddr 2 (.v 1), none⟩, ⟨none, .load false 1 (.r 2), none⟩, ⟨none, .call false f_spec_l1Has [(.r 1), (.r 3)], none⟩, ⟨none, .mov (.r 4), none⟩, ⟨none, .faddr 0 (.v 6), some (5, false)⟩, ⟨none, .load false 1 (.r 6), some (5, false)⟩, ⟨none, .faddr 3 (.v 1), some (5, false)⟩, ⟨none, .load false 1 (.r 8), some (5, false)⟩, ⟨none, .call false f_spec_l1Has [(.r 7), (.r 9)], some (5, false)⟩, ⟨none, .pick (.r 5) (.c (.bool true)) (.r 10), none⟩, ⟨none, .mov (.r 11), none⟩, ⟨none, .faddr 2 (.v 6), some (12, false)⟩, ⟨none, .load false 1 (.r 13), some (12, false)⟩, ⟨none, .faddr 2 (.v 1), some (12, false)⟩, ⟨none, .load false 1 (.r 15), some (12, false)⟩, ⟨none, .call false f_spec_l1Has [(.r 14), (.r 16)], some (12, false)⟩, ⟨none, .pick (.r 12) (.c (.bool true)) (.r 17), none⟩, ⟨none, .mov (.r 18), none⟩, ⟨none, .faddr 2 (.v 6), some (19, false)⟩, ⟨none, .load false 1 (.r 20), some (19, false)⟩, ⟨none, .faddr 3 (.v 1), some (19, false)⟩, ⟨none, .load false 1 (.r 22), some (19, false)⟩, ⟨none, .call false f_spec_l1Has [(.r 21), (.r 23)], some (19, false)⟩, ⟨some 12, .pick (.r 19) (.c (.bool true)) (.r 24), none⟩])
  (.cond (.v 12) (.seq (.region false [] [⟨some 2, .mov (.c (.bool false)), none⟩])
  .ret) .skip))))
  (.region false [] [⟨none, .bin false .add (.v 10) (.c (.int .i64 1)), none⟩, ⟨some 10, .mov (.r 0), none⟩])))))))
  (.seq (.region false [] [⟨some 2, .mov (.c (.bool true)), none⟩])
  .ret))))),
  [.v 2]⟩
def ir_spec_GoodSpec : IFun := ⟨[0, 1, 2, 3, 4, 16, 19, 20, 21, 26],
  (.seq (.region false [] [⟨some 1, .box t_impl_Spec 2 (.v 0), none⟩, ⟨some 2, .mov (.c (.bool false)), none⟩])
  (.seq (.seq (.region false [] [⟨none, .faddr 0 (.v 1), none⟩, ⟨none, .load false 1 (.r 0), none⟩, ⟨none, .call false f_spec_l1In [(.r 1), (.c (.int .i64 2)), (.c (.int .i64 8))], none⟩, ⟨none, .not (.r 2), none⟩, ⟨none, .mov (.r 3), none⟩, ⟨none, .faddr 1 (.v 1), some (4, false)⟩, ⟨none, .load false 1 (.r 5), some (4, false)⟩, ⟨none, .len false (.r 6), some (4, false)⟩, ⟨none, .call false f_spec_l1In [(.r 7), (.c (.int .i64 1)), (.c (.int .i64 6))], some (4, false)⟩, ⟨none, .not (.r 8), some (4, false)⟩, ⟨some 5, .pick (.r 4) (.c (.bool true)) (.r 9), none⟩])
  (.cond (.v 5) (.seq (.region false [] [⟨some 2, .mov (.c (.bool false)), none⟩])
  .ret) .skip))
  (.seq (.seq (.region false [] [⟨none, .faddr 1 (.v 1), none⟩, ⟨none, .load false 1 (.r 0), none⟩, ⟨some 6, .len false (.r 1), none⟩, ⟨some 7, .mov (.c (.int .i64 0)), none⟩])
  (.block 0 (.loop [false, true, false, false, false, false, true, true, false, false] (.seq (.region false [] [⟨some 8, .bin false .lss (.v 7) (.v 6), none⟩])
  (.seq (.cond (.v 8) .skip (.exit 0))
  (.seq (.block 1 (.seq (.region false [] [⟨none, .mov (.v 7), none⟩, ⟨some 3, .mov (.r 0), none⟩])
  (.seq (.region false [] [⟨none, .load true 2 (.v 1), none⟩, ⟨none, .mov (.v 3), none⟩, ⟨none, .call false f_spec_l13Task [(.r 0), (.r 1)], none⟩, ⟨some 9, .not (.r 2), none⟩])
  (.cond (.v 9) (.seq (.region false [] [⟨some 2, .mov (.c (.bool false)), none⟩])
  .ret) .skip))))
  (.region false [] [⟨none, .bin false .add (.v 7) (.c (.int .i64 1)), none⟩, ⟨some 7, .mov (.r 0), none⟩])))))))
  (.seq (.region false [] [⟨none, .load true 2 (.v 1), none⟩, ⟨none, .call false f_spec_l13Lay [(.r 0)], none⟩, ⟨none, .mov (.r 1), none⟩, ⟨none, .extract (.r 2) 0, none⟩, ⟨none, .extract (.r 2) 1, none⟩, ⟨some 4, .alloc t_impl_Flow [(.int .i64 0), (.nil false 3), (.int .i64 0), (.int .i64 0)], none⟩, ⟨none, .store 4 (.v 4) (.r 3), none⟩, ⟨none, .mov (.r 4), none⟩])
  (.seq (.region false [] [⟨none, .load true 4 (.v 4), none⟩, ⟨none, .call false f_spec_GoodFlow [(.r 0)], none⟩, ⟨some 2, .mov (.r 1), none⟩])
  .ret))))),
  [.v 2]⟩
def ir_spec_l3One : IFun := ⟨[0, 1, 4, 5],
  (.seq (.region false [] [⟨some 2, .nilrow t_int true 1, none⟩])
  (.seq (.region false [] [⟨none, .mov (.v 0), none⟩, ⟨none, .mk t_int true 1 (.int .i64 0) (.r 0), none⟩, ⟨some 3, .mov (.r 1), none⟩])
  (.seq (.region false [] [⟨none, .mov (.v 3), none⟩, ⟨none, .mov (.v 1), none⟩, ⟨none, .iaddr 1 (.r 0) (.r 1), none⟩, ⟨none, .store 1 (.r 2) (.c (.int .i64 1)), none⟩])
  (.seq (.region false [] [⟨none, .mov (.v 3), none⟩, ⟨some 2, .mov (.r 0), none⟩])
  .ret)))),
  [.v 2]⟩
def ir_spec_NewCase : IFun := ⟨[0, 1, 2, 3, 6],
  (.seq (.region false [] [⟨some 1, .box t_impl_Spec 2 (.v 0), none⟩, ⟨some 2, .alloc t_impl_Case [(.int .i64 0), (.nil true 1)], none⟩, ⟨some 3, .mov (.c (.bool false)), none⟩])
  (.seq (.seq (.region false [] [⟨none, .load true 2 (.v 1), none⟩, ⟨none, .call false f_spec_GoodSpec [(.r 0)], none⟩, ⟨some 4, .not (.r 1), none⟩])
  (.cond (.v 4) (.seq (.region false [] [⟨none, .build [(.int .i64 0), (.nil true 1)] [], none⟩, ⟨none, .store 2 (.v 2) (.r 0), none⟩, ⟨some 3, .mov (.c (.bool false)), none⟩])
  .ret) .skip))
  (.seq (.region false [] [⟨none, .faddr 0 (.v 1), none⟩, ⟨none, .load false 1 (.r 0), none⟩, ⟨none, .faddr 1 (.v 1), none⟩, ⟨none, .load false 1 (.r 2), none⟩, ⟨none, .len false (.r 3), none⟩, ⟨none, .bin false .add (.r 1) (.r 4), none⟩, ⟨none, .call false f_spec_l3One [(.r 5), (.c (.int .i64 0))], none⟩, ⟨none, .build [(.int .i64 0), (.nil true 1)] [(0, 1, (.c (.int .i64 1))), (1, 1, (.r 6))], none⟩, ⟨none, .store 2 (.v 2) (.r 7), none⟩, ⟨some 3, .mov (.c (.bool true)), none⟩])
  .ret))),
  [.cell true 2 2, .v 3]⟩
def ir_spec_l2Can : IFun := ⟨[0, 1, 2, 4, 6, 8, 9, 10, 11, 18],
  (.seq (.region false [] [⟨some 2, .box t_impl_Trans 3 (.v 0), none⟩, ⟨some 3, .mov (.c (.bool false)), none⟩])
  (.seq (.seq (.region false [] [⟨none, .faddr 0 (.v 2), none⟩, ⟨some 5, .load false 1 (.r 0), none⟩, ⟨some 6, .len false (.v 5), none⟩, ⟨some 7, .mov (.c (.int .i64 0)), none⟩])
  (.block 0 (.loop [false, true, false, false, false, true, true, true, false, false] (.seq (.region false [] [⟨some 8, .bin false .lss (.v 7) (.v 6), none⟩])
  (.seq (.cond (.v 8) .skip (.exit 0))
  (.seq (.block 1 (.seq (.region false [] [⟨none, .iaddr 1 (.v 5) (.v 7), none⟩, ⟨none, .load false 1 (.r 0), none⟩, ⟨some 4, .mov (.r 1), none⟩])
  (.seq (.region false [] [⟨none, .mov (.v 1), none⟩, ⟨none, .mov (.v 4), none⟩, ⟨none, .iaddr 1 (.r 0) (.r 1), none⟩, ⟨none, .load false 1 (.r 2), none⟩, ⟨some 9, .bin false .eql (.r 3) (.c (.int .i64 0)), none⟩])
  (.cond (.v 9) (.seq (.region false [] [⟨some 3, .mov (.c (.bool false)), none⟩])
  .ret) .skip))))
  (.region false [] [⟨none, .bin false .add (.v 7) (.c (.int .i64 1)), none⟩, ⟨some 7, .mov (.r 0), none⟩])))))))
  (.seq (.region false [] [⟨some 3, .mov (.c (.bool true)), none⟩])
  .ret))),
  [.v 3]⟩
def ir_spec_l2Enabled : IFun := ⟨[0, 1, 2, 4, 5, 6, 7, 9, 10, 11, 12, 18],
  (.seq (.region false [] [⟨some 2, .box t_impl_Net 2 (.v 0), none⟩, ⟨some 3, .nilrow t_int true 1, none⟩])
  (.seq (.region false [] [⟨some 4, .nilrow t_int true 1, none⟩])
  (.seq (.seq (.region false [] [⟨none, .faddr 1 (.v 2), none⟩, ⟨some 7, .load false 1 (.r 0), none⟩, ⟨some 8, .len false (.v 7), none⟩, ⟨some 9, .mov (.c (.int .i64 0)), none⟩])
  (.block 0 (.loop [false, true, false, false, true, false, false, true, true, true, false, false] (.seq (.region false [] [⟨some 10, .bin false .lss (.v 9) (.v 8), none⟩])
  (.seq (.cond (.v 10) .skip (.exit 0))
  (.seq (.block 1 (.seq (.region false [] [⟨none, .mov (.v 9), none⟩, ⟨none, .iaddr 3 (.v 7) (.v 9), none⟩, ⟨none, .load true 3 (.r 1), none⟩, ⟨some 6, .alloc t_impl_Trans [(.nil true 1), (.nil true 1), (.nil true 1)], none⟩, ⟨some 5, .mov (.r 0), none⟩, ⟨none, .store 3 (.v 6) (.r 2), none⟩])
  (.seq (.region false [] [⟨none, .load true 3 (.v 6), none⟩, ⟨none, .mov (.v 1), none⟩, ⟨some 11, .call false f_spec_l2Can [(.r 0), (.r 1)], none⟩])
  (.cond (.v 11) (.region false [] [⟨none, .mov (.v 4), none⟩, ⟨none, .mov (.v 5), none⟩, ⟨none, .bslice false t_int true 1 [(.r 1)], none⟩, ⟨none, .append t_int true 1 (.r 0) (.r 2), none⟩, ⟨some 4, .mov (.r 3), none⟩]) .skip))))
  (.region false [] [⟨none, .bin false .add (.v 9) (.c (.int .i64 1)), none⟩, ⟨some 9, .mov (.r 0), none⟩])))))))
  (.seq (.region false [] [⟨none, .mov (.v 4), none⟩, ⟨some 3, .mov (.r 0), none⟩])
  .ret)))),
  [.v 3]⟩
def ir_spec_l14Moves : IFun := ⟨[0, 1, 2, 3, 4, 5, 6, 7, 9, 12, 22, 23, 24, 25],
  (.seq (.region false [] [⟨some 2, .box t_impl_Spec 2 (.v 0), none⟩, ⟨some 3, .box t_impl_Case 2 (.v 1), none⟩, ⟨some 4, .nilrow t_impl_Move true 3, none⟩])
  (.seq (.seq (.region false [] [⟨none, .faddr 0 (.v 3), none⟩, ⟨none, .load false 1 (.r 0), none⟩, ⟨some 9, .bin false .neq (.r 1) (.c (.int .i64 1)), none⟩])
  (.cond (.v 9) (.seq (.region false [] [⟨some 4, .nilrow t_impl_Move true 3, none⟩])
  .ret) .skip))
  (.seq (.region false [] [⟨none, .load true 2 (.v 2), none⟩, ⟨none, .call false f_spec_l13Lay [(.r 0)], none⟩, ⟨none, .mov (.r 1), none⟩, ⟨none, .extract (.r 2) 0, none⟩, ⟨none, .extract (.r 2) 1, none⟩, ⟨some 5, .alloc t_impl_Flow [(.int .i64 0), (.nil false 3), (.int .i64 0), (.int .i64 0)], none⟩, ⟨none, .store 4 (.v 5) (.r 3), none⟩, ⟨some 6, .mov (.r 4), none⟩])
  (.seq (.region false [] [⟨some 7, .nilrow t_impl_Move true 3, none⟩])
  (.seq (.seq (.region false [] [⟨none, .faddr 0 (.v 5), none⟩, ⟨none, .load true 2 (.r 0), none⟩, ⟨none, .faddr 1 (.v 3), none⟩, ⟨none, .load false 1 (.r 2), none⟩, ⟨some 10, .call false f_spec_l2Enabled [(.r 1), (.r 3)], none⟩, ⟨some 11, .len false (.v 10), none⟩, ⟨some 12, .mov (.c (.int .i64 0)), none⟩])
  (.block 0 (.loop [false, false, false, false, false, false, true, true, false, false, true, true, true, false] (.seq (.region false [] [⟨some 13, .bin false .lss (.v 12) (.v 11), none⟩])
  (.seq (.cond (.v 13) .skip (.exit 0))
  (.seq (.block 1 (.seq (.region false [] [⟨none, .iaddr 1 (.v 10) (.v 12), none⟩, ⟨none, .load false 1 (.r 0), none⟩, ⟨some 8, .mov (.r 1), none⟩])
  (.region false [] [⟨none, .mov (.v 7), none⟩, ⟨none, .mov (.v 6), none⟩, ⟨none, .mov (.v 8), none⟩, ⟨none, .iaddr 3 (.r 1) (.r 2), none⟩, ⟨none, .load true 3 (.r 3), none⟩, ⟨none, .bslice false t_impl_Move true 3 [(.r 4)], none⟩, ⟨none, .append t_impl_Move true 3 (.r 0) (.r 5), none⟩, ⟨some 7, .mov (.r 6), none⟩])))
  (.region false [] [⟨none, .bin false .add (.v 12) (.c (.int .i64 1)), none⟩, ⟨some 12, .mov (.r 0), none⟩])))))))
  (.seq (.region false [] [⟨none, .mov (.v 7), none⟩, ⟨some 4, .mov (.r 0), none⟩])
  .ret)))))),
  [.v 4]⟩
def ir_spec_l13No : IFun := ⟨[0, 1, 2, 3, 4, 6, 7, 8, 14, 15, 16, 17, 23],
  (.seq (.region false [] [⟨some 2, .box t_impl_Spec 2 (.v 0), none⟩, ⟨some 3, .box t_impl_Move 3 (.v 1), none⟩, ⟨some 4, .mov (.c (.int .i64 0)), none⟩])
  (.seq (.region false [] [⟨none, .load true 2 (.v 2), none⟩, ⟨none, .call false f_spec_l13Lay [(.r 0)], none⟩, ⟨none, .mov (.r 1), none⟩, ⟨none, .extract (.r 2) 0, none⟩, ⟨none, .extract (.r 2) 1, none⟩, ⟨none, .alloc t_impl_Flow [(.int .i64 0), (.nil false 3), (.int .i64 0), (.int .i64 0)], none⟩, ⟨none, .store 4 (.r 5) (.r 3), none⟩, ⟨some 5, .mov (.r 4), none⟩])
  (.seq (.seq (.region false [] [⟨some 8, .mov (.v 5), none⟩, ⟨some 9, .len false (.v 8), none⟩, ⟨some 10, .mov (.c (.int .i64 0)), none⟩])
  (.block 0 (.loop [false, false, false, true, false, false, false, false, true, true, true, false, false] (.seq (.region false [] [⟨some 11, .bin false .lss (.v 10) (.v 9), none⟩])
  (.seq (.cond (.v 11) .skip (.exit 0))
  (.seq (.block 1 (.seq (.region false [] [⟨none, .mov (.v 10), none⟩, ⟨none, .iaddr 3 (.v 8) (.v 10), none⟩, ⟨none, .load true 3 (.r 1), none⟩, ⟨some 7, .alloc t_impl_Move [(.int .i64 0), (.bool false), (.int .i64 0)], none⟩, ⟨some 6, .mov (.r 0), none⟩, ⟨none, .store 3 (.v 7) (.r 2), none⟩])
  (.seq (.region false [] [⟨none, .load true 3 (.v 7), none⟩, ⟨none, .load true 3 (.v 3), none⟩, ⟨some 12, .eqs false [0, 1, 0] (.r 0) (.r 1), none⟩])
  (.cond (.v 12) (.seq (.region false [] [⟨none, .mov (.v 6), none⟩, ⟨some 4, .mov (.r 0), none⟩])
  .ret) .skip))))
  (.region false [] [⟨none, .bin false .add (.v 10) (.c (.int .i64 1)), none⟩, ⟨some 10, .mov (.r 0), none⟩])))))))
  (.seq (.region false [] [⟨some 4, .mov (.c (.int .i64 (-1))), none⟩])
  .ret)))),
  [.v 4]⟩
def ir_spec_l1All : IFun := ⟨[0, 1, 2, 6, 8, 9, 10, 11, 12, 19],
  (.seq (.region false [] [⟨some 3, .mov (.c (.bool false)), none⟩])
  (.seq (.seq (.region false [] [⟨some 5, .mov (.v 0), none⟩, ⟨some 6, .len false (.v 5), none⟩, ⟨some 7, .mov (.c (.int .i64 0)), none⟩])
  (.block 0 (.loop [false, true, true, false, false, true, true, true, false, false] (.seq (.region false [] [⟨some 8, .bin false .lss (.v 7) (.v 6), none⟩])
  (.seq (.cond (.v 8) .skip (.exit 0))
  (.seq (.block 1 (.seq (.region false [] [⟨none, .iaddr 1 (.v 5) (.v 7), none⟩, ⟨none, .load false 1 (.r 0), none⟩, ⟨some 4, .mov (.r 1), none⟩])
  (.seq (.region false [] [⟨none, .mov (.v 4), none⟩, ⟨none, .mov (.v 1), none⟩, ⟨none, .mov (.v 2), none⟩, ⟨none, .call false f_spec_l1In [(.r 0), (.r 1), (.r 2)], none⟩, ⟨some 9, .not (.r 3), none⟩])
  (.cond (.v 9) (.seq (.region false [] [⟨some 3, .mov (.c (.bool false)), none⟩])
  .ret) .skip))))
  (.region false [] [⟨none, .bin false .add (.v 7) (.c (.int .i64 1)), none⟩, ⟨some 7, .mov (.r 0), none⟩])))))))
  (.seq (.region false [] [⟨some 3, .mov (.c (.bool true)), none⟩])
  .ret))),
  [.v 3]⟩
def ir_spec_GoodMark : IFun := ⟨[0, 1, 4],
  (.seq (.region false [] [⟨some 2, .mov (.c (.bool false)), none⟩])
  (.seq (.region false [] [⟨none, .mov (.v 0), none⟩, ⟨none, .call false f_spec_l1Places [(.r 0)], none⟩, ⟨none, .mov (.r 1), none⟩, ⟨none, .mov (.v 1), some (2, true)⟩, ⟨none, .len false (.r 3), some (2, true)⟩, ⟨none, .mov (.v 0), some (2, true)⟩, ⟨none, .bin false .eql (.r 4) (.r 5), some (2, true)⟩, ⟨none, .pick (.r 2) (.r 6) (.c (.bool false)), none⟩, ⟨none, .mov (.r 7), none⟩, ⟨none, .mov (.v 1), some (8, true)⟩, ⟨none, .call false f_spec_l1All [(.r 9), (.c (.int .i64 0)), (.c (.int .i64 50))], some (8, true)⟩, ⟨none, .pick (.r 8) (.r 10) (.c (.bool false)), none⟩, ⟨some 2, .mov (.r 11), none⟩])
  .ret)),
  [.v 2]⟩
def ir_spec_l2Marked : IFun := ⟨[0, 1, 2, 4],
  (.seq (.region false [] [⟨some 2, .box t_impl_Net 2 (.v 0), none⟩, ⟨some 3, .mov (.c (.bool false)), none⟩])
  (.seq (.region false [] [⟨none, .load true 2 (.v 2), none⟩, ⟨none, .call false f_spec_GoodNet [(.r 0)], none⟩, ⟨none, .mov (.r 1), none⟩, ⟨none, .faddr 0 (.v 2), some (2, true)⟩, ⟨none, .load false 1 (.r 3), some (2, true)⟩, ⟨none, .mov (.v 1), some (2, true)⟩, ⟨none, .call false f_spec_GoodMark [(.r 4), (.r 5)], some (2, true)⟩, ⟨none, .pick (.r 2) (.r 6) (.c (.bool false)), none⟩, ⟨some 3, .mov (.r 7), none⟩])
  .ret)),
  [.v 3]⟩
def ir_spec_l2Fire : IFun := ⟨[0, 1, 2, 4, 5, 7, 9, 11, 15, 16, 17, 18, 29, 30, 31, 32, 40, 41, 42, 43],
  (.seq (.region false [] [⟨some 2, .box t_impl_Trans 3 (.v 0), none⟩, ⟨some 3, .nilrow t_int true 1, none⟩])
  (.seq (.region false [] [⟨none, .mov (.v 1), none⟩, ⟨none, .call false f_spec_l1Own [(.r 0)], none⟩, ⟨some 4, .mov (.r 1), none⟩])
  (.seq (.seq (.region false [] [⟨none, .faddr 0 (.v 2), none⟩, ⟨some 8, .load false 1 (.r 0), none⟩, ⟨some 9, .len false (.v 8), none⟩, ⟨some 10, .mov (.c (.int .i64 0)), none⟩])
  (.block 0 (.loop [false, false, true, false, true, false, false, false, true, true, true, false, false, false, false, false, false, false, false, false] (.seq (.region false [] [⟨some 11, .bin false .lss (.v 10) (.v 9), none⟩])
  (.seq (.cond (.v 11) .skip (.exit 0))
  (.seq (.block 1 (.seq (.region false [] [⟨none, .iaddr 1 (.v 8) (.v 10), none⟩, ⟨none, .load false 1 (.r 0), none⟩, ⟨some 5, .mov (.r 1), none⟩])
  (.region false [] [⟨none, .mov (.v 4), none⟩, ⟨none, .mov (.v 5), none⟩, ⟨none, .iaddr 1 (.r 0) (.r 1), none⟩, ⟨none, .load false 1 (.r 2), none⟩, ⟨none, .bin false .sub (.r 3) (.c (.int .i64 1)), none⟩, ⟨none, .iaddr 1 (.r 0) (.r 1), none⟩, ⟨none, .store 1 (.r 5) (.r 4), none⟩])))
  (.region false [] [⟨none, .bin false .add (.v 10) (.c (.int .i64 1)), none⟩, ⟨some 10, .mov (.r 0), none⟩])))))))
  (.seq (.seq (.region false [] [⟨none, .faddr 2 (.v 2), none⟩, ⟨some 12, .load false 1 (.r 0), none⟩, ⟨some 13, .len false (.v 12), none⟩, ⟨some 14, .mov (.c (.int .i64 0)), none⟩])
  (.block 2 (.loop [false, false, true, false, true, false, false, false, false, false, false, false, true, true, true, false, false, false, false, false] (.seq (.region false [] [⟨some 15, .bin false .lss (.v 14) (.v 13), none⟩])
  (.seq (.cond (.v 15) .skip (.exit 2))
  (.seq (.block 3 (.seq (.region false [] [⟨none, .iaddr 1 (.v 12) (.v 14), none⟩, ⟨none, .load false 1 (.r 0), none⟩, ⟨some 6, .mov (.r 1), none⟩])
  (.region false [] [⟨none, .mov (.v 4), none⟩, ⟨none, .mov (.v 6), none⟩, ⟨none, .iaddr 1 (.r 0) (.r 1), none⟩, ⟨none, .store 1 (.r 2) (.c (.int .i64 0)), none⟩])))
  (.region false [] [⟨none, .bin false .add (.v 14) (.c (.int .i64 1)), none⟩, ⟨some 14, .mov (.r 0), none⟩])))))))
  (.seq (.seq (.region false [] [⟨none, .faddr 1 (.v 2), none⟩, ⟨some 16, .load false 1 (.r 0), none⟩, ⟨some 17, .len false (.v 16), none⟩, ⟨some 18, .mov (.c (.int .i64 0)), none⟩])
  (.block 4 (.loop [false, false, false, false, true, false, false, false, false, false, false, false, false, false, false, false, true, true, true, false] (.seq (.region false [] [⟨some 19, .bin false .lss (.v 18) (.v 17), none⟩])
  (.seq (.cond (.v 19) .skip (.exit 4))
  (.seq (.block 5 (.seq (.region false [] [⟨none, .iaddr 1 (.v 16) (.v 18), none⟩, ⟨none, .load false 1 (.r 0), none⟩, ⟨some 7, .mov (.r 1), none⟩])
  (.region false [] [⟨none, .mov (.v 4), none⟩, ⟨none, .mov (.v 7), none⟩, ⟨none, .iaddr 1 (.r 0) (.r 1), none⟩, ⟨none, .load false 1 (.r 2), none⟩, ⟨none, .bin false .add (.r 3) (.c (.int .i64 1)), none⟩, ⟨none, .iaddr 1 (.r 0) (.r 1), none⟩, ⟨none, .store 1 (.r 5) (.r 4), none⟩])))
  (.region false [] [⟨none, .bin false .add (.v 18) (.c (.int .i64 1)), none⟩, ⟨some 18, .mov (.r 0), none⟩])))))))
  (.seq (.region false [] [⟨none, .mov (.v 4), none⟩, ⟨some 3, .mov (.r 0), none⟩])
  .ret)))))),
  [.v 3]⟩
def ir_spec_Fire : IFun := ⟨[0, 1, 2, 3, 6, 7, 8, 31, 43],
  (.seq (.region false [] [⟨some 3, .box t_impl_Net 2 (.v 0), none⟩, ⟨some 4, .nilrow t_int true 1, none⟩, ⟨some 5, .mov (.c (.bool false)), none⟩])
  (.seq (.seq (.region false [] [⟨none, .load true 2 (.v 3), none⟩, ⟨none, .mov (.v 1), none⟩, ⟨none, .call false f_spec_l2Marked [(.r 0), (.r 1)], none⟩, ⟨none, .not (.r 2), none⟩, ⟨none, .mov (.r 3), none⟩, ⟨none, .mov (.v 2), some (4, false)⟩, ⟨none, .faddr 1 (.v 3), some (4, false)⟩, ⟨none, .load false 1 (.r 6), some (4, false)⟩, ⟨none, .len false (.r 7), some (4, false)⟩, ⟨none, .bin false .sub (.r 8) (.c (.int .i64 1)), some (4, false)⟩, ⟨none, .call false f_spec_l1In [(.r 5), (.c (.int .i64 0)), (.r 9)], some (4, false)⟩, ⟨none, .not (.r 10), some (4, false)⟩, ⟨none, .pick (.r 4) (.c (.bool true)) (.r 11), none⟩, ⟨none, .mov (.r 12), none⟩, ⟨none, .faddr 1 (.v 3), some (13, false)⟩, ⟨none, .load false 1 (.r 14), some (13, false)⟩, ⟨none, .mov (.v 2), some (13, false)⟩, ⟨none, .iaddr 3 (.r 15) (.r 16), some (13, false)⟩, ⟨none, .load true 3 (.r 17), some (13, false)⟩, ⟨none, .mov (.v 1), some (13, false)⟩, ⟨none, .call false f_spec_l2Can [(.r 18), (.r 19)], some (13, false)⟩, ⟨none, .not (.r 20), some (13, false)⟩, ⟨some 7, .pick (.r 13) (.c (.bool true)) (.r 21), none⟩])
  (.cond (.v 7) (.seq (.region false [] [⟨some 4, .nilrow t_int true 1, none⟩, ⟨some 5, .mov (.c (.bool false)), none⟩])
  .ret) .skip))
  (.seq (.region false [] [⟨none, .faddr 1 (.v 3), none⟩, ⟨none, .load false 1 (.r 0), none⟩, ⟨none, .mov (.v 2), none⟩, ⟨none, .iaddr 3 (.r 1) (.r 2), none⟩, ⟨none, .load true 3 (.r 3), none⟩, ⟨none, .mov (.v 1), none⟩, ⟨none, .call false f_spec_l2Fire [(.r 4), (.r 5)], none⟩, ⟨some 6, .mov (.r 6), none⟩])
  (.seq (.seq (.region false [] [⟨none, .faddr 0 (.v 3), none⟩, ⟨none, .load false 1 (.r 0), none⟩, ⟨none, .mov (.v 6), none⟩, ⟨none, .call false f_spec_GoodMark [(.r 1), (.r 2)], none⟩, ⟨some 8, .not (.r 3), none⟩])
  (.cond (.v 8) (.seq (.region false [] [⟨some 4, .nilrow t_int true 1, none⟩, ⟨some 5, .mov (.c (.bool false)), none⟩])
  .ret) .skip))
  (.seq (.region false [] [⟨none, .mov (.v 6), none⟩, ⟨some 4, .mov (.r 0), none⟩, ⟨some 5, .mov (.c (.bool true)), none⟩])
  .ret))))),
  [.v 4, .v 5]⟩
def ir_spec_l14Step : IFun := ⟨[0, 1, 2, 3, 4, 5, 6, 7, 8, 9, 11, 12, 13, 23, 40, 47],
  (.seq (.region false [] [⟨some 3, .box t_impl_Spec 2 (.v 0), none⟩, ⟨some 4, .box t_impl_Case 2 (.v 1), none⟩, ⟨some 5, .box t_impl_Move 3 (.v 2), none⟩, ⟨some 6, .alloc t_impl_Case [(.int .i64 0), (.nil true 1)], none⟩, ⟨some 7, .mov (.c (.bool false)), none⟩])
  (.seq (.region false [] [⟨none, .load true 2 (.v 3), none⟩, ⟨none, .load true 3 (.v 5), none⟩, ⟨none, .call false f_spec_l13No [(.r 0), (.r 1)], none⟩, ⟨some 8, .mov (.r 2), none⟩])
  (.seq (.seq (.region false [] [⟨none, .faddr 0 (.v 4), none⟩, ⟨none, .load false 1 (.r 0), none⟩, ⟨none, .bin false .neq (.r 1) (.c (.int .i64 1)), none⟩, ⟨none, .mov (.r 2), none⟩, ⟨none, .mov (.v 8), some (3, false)⟩, ⟨none, .bin false .lss (.r 4) (.c (.int .i64 0)), some (3, false)⟩, ⟨some 13, .pick (.r 3) (.c (.bool true)) (.r 5), none⟩])
  (.cond (.v 13) (.seq (.region false [] [⟨none, .build [(.int .i64 0), (.nil true 1)] [], none⟩, ⟨none, .store 2 (.v 6) (.r 0), none⟩, ⟨some 7, .mov (.c (.bool false)), none⟩])
  .ret) .skip))
  (.seq (.region false [] [⟨none, .load true 2 (.v 3), none⟩, ⟨none, .call false f_spec_l13Lay [(.r 0)], none⟩, ⟨none, .mov (.r 1), none⟩, ⟨none, .extract (.r 2) 0, none⟩, ⟨none, .extract (.r 2) 1, none⟩, ⟨some 9, .alloc t_impl_Flow [(.int .i64 0), (.nil false 3), (.int .i64 0), (.int .i64 0)], none⟩, ⟨none, .store 4 (.v 9) (.r 3), none⟩, ⟨none, .mov (.r 4), none⟩])
  (.seq (.region false [] [⟨none, .faddr 0 (.v 9), none⟩, ⟨none, .load true 2 (.r 0), none⟩, ⟨none, .faddr 1 (.v 4), none⟩, ⟨none, .load false 1 (.r 2), none⟩, ⟨none, .mov (.v 8), none⟩, ⟨none, .call false f_spec_Fire [(.r 1), (.r 3), (.r 4)], none⟩, ⟨none, .mov (.r 5), none⟩, ⟨none, .extract (.r 6) 0, none⟩, ⟨none, .extract (.r 6) 1, none⟩, ⟨some 10, .mov (.r 7), none⟩, ⟨some 11, .mov (.r 8), none⟩])
  (.seq (.seq (.region false [] [⟨none, .mov (.v 11), none⟩, ⟨some 14, .not (.r 0), none⟩])
  (.cond (.v 14) (.seq (.region false [] [⟨none, .build [(.int .i64 0), (.nil true 1)] [], none⟩, ⟨none, .store 2 (.v 6) (.r 0), none⟩, ⟨some 7, .mov (.c (.bool false)), none⟩])
  .ret) .skip))
  (.seq (.region false [] [⟨none, .mov (.v 10), none⟩, ⟨none, .build [(.int .i64 0), (.nil true 1)] [(0, 1, (.c (.int .i64 1))), (1, 1, (.r 0))], none⟩, ⟨some 12, .alloc t_impl_Case [(.int .i64 0), (.nil true 1)], none⟩, ⟨none, .store 2 (.v 12) (.r 1), none⟩])
  (.seq (.seq (.region false [] [⟨none, .mov (.v 10), none⟩, ⟨none, .iaddr 1 (.r 0) (.c (.int .i64 1)), none⟩, ⟨none, .load false 1 (.r 1), none⟩, ⟨some 15, .bin false .gtr (.r 2) (.c (.int .i64 0)), none⟩])
  (.cond (.v 15) (.region false [] [⟨none, .faddr 0 (.v 12), none⟩, ⟨none, .store 1 (.r 0) (.c (.int .i64 2)), none⟩]) .skip))
  (.seq (.region false [] [⟨none, .load true 2 (.v 12), none⟩, ⟨none, .store 2 (.v 6) (.r 0), none⟩, ⟨some 7, .mov (.c (.bool true)), none⟩])
  .ret))))))))),
  [.cell true 2 6, .v 7]⟩
def ir_spec_l1Cur_moves : IFun := ⟨[0, 1, 3, 4, 5, 6, 7, 8, 9, 10, 11, 12, 19, 23, 28, 51, 66],
  (.seq (.region false [] [⟨some 2, .box t_impl_Spec 2 (.v 1), none⟩, ⟨some 3, .nilrow t_impl_Move true 3, none⟩])
  (.seq (.region false [] [⟨none, .load true 2 (.v 2), none⟩, ⟨none, .call false f_spec_NewCase [(.r 0)], none⟩, ⟨none, .mov (.r 1), none⟩, ⟨none, .extract (.r 2) 0, none⟩, ⟨none, .extract (.r 2) 1, none⟩, ⟨some 4, .alloc t_impl_Case [(.int .i64 0), (.nil true 1)], none⟩, ⟨none, .store 2 (.v 4) (.r 3), none⟩, ⟨some 5, .mov (.r 4), none⟩])
  (.seq (.seq (.region false [] [⟨none, .mov (.v 5), none⟩, ⟨some 12, .not (.r 0), none⟩])
  (.cond (.v 12) (.seq (.region false [] [⟨some 3, .nilrow t_impl_Move true 3, none⟩])
  .ret) .skip))
  (.seq (.region false [] [⟨some 6, .nilrow t_impl_Move true 3, none⟩])
  (.seq (.region false [] [⟨none, .mov (.v 0), none⟩, ⟨none, .callm f_spec_l1Cur_pick [(.r 0), (.c (.int .i64 12))], none⟩, ⟨some 7, .mov (.r 1), none⟩])
  (.seq (.seq (.region false [] [⟨none, .mov (.v 0), none⟩, ⟨some 13, .callm f_spec_l1Cur_one [(.r 0), (.c (.int .i64 30))], none⟩])
  (.cond (.v 13) (.region false [] [⟨none, .mov (.v 0), none⟩, ⟨none, .callm f_spec_l1Cur_pick [(.r 0), (.c (.int .i64 2))], none⟩, ⟨none, .bin false .add (.c (.int .i64 60)) (.r 1), none⟩, ⟨some 7, .mov (.r 2), none⟩]) .skip))
  (.seq (.block 0 (.loop [true, false, true, false, true, false, true, true, false, false, false, false, false, false, false, false, false] (.seq (.seq (.region false [] [⟨none, .mov (.v 7), none⟩, ⟨some 14, .bin false .gtr (.r 0) (.c (.int .i64 0)), none⟩])
  (.cond (.v 14) .skip (.exit 0)))
  (.seq (.block 1 (.seq (.region false [] [⟨none, .mov (.v 0), none⟩, ⟨none, .faddr 1 (.v 2), none⟩, ⟨none, .load false 1 (.r 1), none⟩, ⟨none, .len false (.r 2), none⟩, ⟨none, .callm f_spec_l1Cur_pick [(.r 0), (.r 3)], none⟩, ⟨none, .mov (.v 0), none⟩, ⟨none, .callm f_spec_l1Cur_one [(.r 5), (.c (.int .i64 2))], none⟩, ⟨none, .mov (.v 0), none⟩, ⟨none, .callm f_spec_l1Cur_pick [(.r 7), (.c (.int .i64 2))], none⟩, ⟨none, .build [(.int .i64 0), (.bool false), (.int .i64 0)] [(0, 1, (.r 4)), (1, 1, (.r 6)), (2, 1, (.r 8))], none⟩, ⟨some 8, .alloc t_impl_Move [(.int .i64 0), (.bool false), (.int .i64 0)], none⟩, ⟨none, .store 3 (.v 8) (.r 9), none⟩])
  (.seq (.seq (.region false [] [⟨none, .load true 2 (.v 2), none⟩, ⟨none, .load true 2 (.v 4), none⟩, ⟨none, .call false f_spec_l14Moves [(.r 0), (.r 1)], none⟩, ⟨some 9, .mov (.r 2), none⟩])
  (.seq (.region false [] [⟨none, .mov (.v 9), none⟩, ⟨none, .len false (.r 0), none⟩, ⟨none, .bin false .gtr (.r 1) (.c (.int .i64 0)), none⟩, ⟨none, .mov (.r 2), none⟩, ⟨none, .mov (.v 0), some (3, true)⟩, ⟨none, .callm f_spec_l1Cur_one [(.r 4), (.c (.int .i64 12))], some (3, true)⟩, ⟨none, .not (.r 5), some (3, true)⟩, ⟨some 15, .pick (.r 3) (.r 6) (.c (.bool false)), none⟩])
  (.cond (.v 15) (.region false [] [⟨none, .mov (.v 9), none⟩, ⟨none, .mov (.v 0), none⟩, ⟨none, .mov (.v 9), none⟩, ⟨none, .len false (.r 2), none⟩, ⟨none, .callm f_spec_l1Cur_pick [(.r 1), (.r 3)], none⟩, ⟨none, .iaddr 3 (.r 0) (.r 4), none⟩, ⟨none, .load true 3 (.r 5), none⟩, ⟨none, .store 3 (.v 8) (.r 6), none⟩]) .skip)))
  (.seq (.seq (.region false [] [⟨none, .load true 2 (.v 2), none⟩, ⟨none, .load true 2 (.v 4), none⟩, ⟨none, .load true 3 (.v 8), none⟩, ⟨none, .call false f_spec_l14Step [(.r 0), (.r 1), (.r 2)], none⟩, ⟨none, .mov (.r 3), none⟩, ⟨none, .extract (.r 4) 0, none⟩, ⟨none, .extract (.r 4) 1, none⟩, ⟨some 10, .alloc t_impl_Case [(.int .i64 0), (.nil true 1)], none⟩, ⟨none, .store 2 (.v 10) (.r 5), none⟩, ⟨some 11, .mov (.r 6), none⟩])
  (.seq (.region false [] [⟨some 16, .mov (.v 11), none⟩])
  (.cond (.v 16) (.region false [] [⟨none, .load true 2 (.v 10), none⟩, ⟨none, .store 2 (.v 4) (.r 0), none⟩]) .skip)))
  (.region false [] [⟨none, .mov (.v 6), none⟩, ⟨none, .load true 3 (.v 8), none⟩, ⟨none, .bslice false t_impl_Move true 3 [(.r 1)], none⟩, ⟨none, .append t_impl_Move true 3 (.r 0) (.r 2), none⟩, ⟨some 6, .mov (.r 3), none⟩])))))
  (.region false [] [⟨none, .mov (.v 7), none⟩, ⟨none, .bin false .sub (.r 0) (.c (.int .i64 1)), none⟩, ⟨some 7, .mov (.r 1), none⟩])))))
  (.seq (.region false [] [⟨none, .mov (.v 6), none⟩, ⟨some 3, .mov (.r 0), none⟩])
  .ret)))))))),
  [.v 3]⟩
def ir_spec_l14Own : IFun := ⟨[0, 1, 2],
  (.seq (.region false [] [⟨some 1, .box t_impl_Case 2 (.v 0), none⟩, ⟨some 2, .alloc t_impl_Case [(.int .i64 0), (.nil true 1)], none⟩])
  (.seq (.region true [(4, 1)] [⟨none, .faddr 0 (.v 1), none⟩, ⟨none, .load false 1 (.r 0), none⟩, ⟨none, .faddr 1 (.v 1), none⟩, ⟨none, .load false 1 (.r 2), none⟩, ⟨none, .call false f_spec_l1Own [(.r 3)], none⟩, ⟨none, .build [(.int .i64 0), (.nil true 1)] [(0, 1, (.r 1)), (1, 1, (.r 4))], none⟩, ⟨none, .store 2 (.v 2) (.r 5), none⟩])
  .ret)),
  [.cell true 2 2]⟩
def ir_spec_PlayCase : IFun := ⟨[0, 1, 2, 4, 5, 6, 7, 8, 9, 11, 12, 13, 25, 27, 28, 29, 30, 40],
  (.seq (.region false [] [⟨some 2, .box t_impl_Spec 2 (.v 0), none⟩, ⟨some 3, .alloc t_impl_Case [(.int .i64 0), (.nil true 1)], none⟩, ⟨some 4, .nilrow t_bool true 1, none⟩, ⟨some 5, .mov (.c (.bool false)), none⟩])
  (.seq (.region false [] [⟨none, .load true 2 (.v 2), none⟩, ⟨none, .call false f_spec_NewCase [(.r 0)], none⟩, ⟨none, .mov (.r 1), none⟩, ⟨none, .extract (.r 2) 0, none⟩, ⟨none, .extract (.r 2) 1, none⟩, ⟨some 6, .alloc t_impl_Case [(.int .i64 0), (.nil true 1)], none⟩, ⟨none, .store 2 (.v 6) (.r 3), none⟩, ⟨some 7, .mov (.r 4), none⟩])
  (.seq (.seq (.region false [] [⟨none, .mov (.v 7), none⟩, ⟨none, .not (.r 0), none⟩, ⟨none, .mov (.r 1), none⟩, ⟨none, .mov (.v 1), some (2, false)⟩, ⟨none, .len false (.r 3), some (2, false)⟩, ⟨none, .bin false .gtr (.r 4) (.c (.int .i64 60)), some (2, false)⟩, ⟨some 12, .pick (.r 2) (.c (.bool true)) (.r 5), none⟩])
  (.cond (.v 12) (.seq (.region false [] [⟨none, .build [(.int .i64 0), (.nil true 1)] [], none⟩, ⟨none, .store 2 (.v 3) (.r 0), none⟩, ⟨some 4, .nilrow t_bool true 1, none⟩, ⟨some 5, .mov (.c (.bool false)), none⟩])
  .ret) .skip))
  (.seq (.region false [] [⟨some 8, .nilrow t_bool true 1, none⟩])
  (.seq (.seq (.region false [] [⟨some 13, .mov (.v 1), none⟩, ⟨some 14, .len false (.v 13), none⟩, ⟨some 15, .mov (.c (.int .i64 0)), none⟩])
  (.block 0 (.loop [false, false, true, true, false, false, true, false, true, false, false, false, false, true, true, true, false, false] (.seq (.region false [] [⟨some 16, .bin false .lss (.v 15) (.v 14), none⟩])
  (.seq (.cond (.v 16) .skip (.exit 0))
  (.seq (.block 1 (.seq (.region false [] [⟨none, .iaddr 3 (.v 13) (.v 15), none⟩, ⟨none, .load true 3 (.r 0), none⟩, ⟨some 9, .alloc t_impl_Move [(.int .i64 0), (.bool false), (.int .i64 0)], none⟩, ⟨none, .store 3 (.v 9) (.r 1), none⟩])
  (.seq (.region false [] [⟨none, .load true 2 (.v 2), none⟩, ⟨none, .load true 2 (.v 6), none⟩, ⟨none, .load true 3 (.v 9), none⟩, ⟨none, .call false f_spec_l14Step [(.r 0), (.r 1), (.r 2)], none⟩, ⟨none, .mov (.r 3), none⟩, ⟨none, .extract (.r 4) 0, none⟩, ⟨none, .extract (.r 4) 1, none⟩, ⟨some 10, .alloc t_impl_Case [(.int .i64 0), (.nil true 1)], none⟩, ⟨none, .store 2 (.v 10) (.r 5), none⟩, ⟨some 11, .mov (.r 6), none⟩])
  (.seq (.seq (.region false [] [⟨some 17, .mov (.v 11), none⟩])
  (.cond (.v 17) (.region false [] [⟨none, .load true 2 (.v 10), none⟩, ⟨none, .store 2 (.v 6) (.r 0), none⟩]) .skip))
  (.region false [] [⟨none, .mov (.v 8), none⟩, ⟨none, .mov (.v 11), none⟩, ⟨none, .bslice false t_bool true 1 [(.r 1)], none⟩, ⟨none, .append t_bool true 1 (.r 0) (.r 2), none⟩, ⟨some 8, .mov (.r 3), none⟩])))))
  (.region false [] [⟨none, .bin false .add (.v 15) (.c (.int .i64 1)), none⟩, ⟨some 15, .mov (.r 0), none⟩])))))))
  (.seq (.region false [] [⟨none, .load true 2 (.v 6), none⟩, ⟨none, .call false f_spec_l14Own [(.r 0)], none⟩, ⟨none, .mov (.v 8), none⟩, ⟨none, .store 2 (.v 3) (.r 1), none⟩, ⟨some 4, .mov (.r 2), none⟩, ⟨some 5, .mov (.c (.bool true)), none⟩])
  .ret)))))),
  [.cell true 2 3, .v 4, .v 5]⟩
def ir_spec_l1Cur_caseOf : IFun := ⟨[0, 1, 3, 4, 5, 7, 18, 21, 22, 27],
  (.seq (.region false [] [⟨some 2, .box t_impl_Spec 2 (.v 1), none⟩, ⟨some 3, .alloc t_impl_Case [(.int .i64 0), (.nil true 1)], none⟩])
  (.seq (.region true [(4, 0)] [⟨none, .load true 2 (.v 2), none⟩, ⟨none, .mov (.v 0), none⟩, ⟨none, .load true 2 (.v 2), none⟩, ⟨some 4, .alloc t_impl_Case [(.int .i64 0), (.nil true 1)], none⟩, ⟨none, .callm f_spec_l1Cur_moves [(.r 1), (.r 2)], none⟩, ⟨none, .call false f_spec_PlayCase [(.r 0), (.r 4)], none⟩, ⟨none, .mov (.r 5), none⟩, ⟨none, .extract (.r 6) 0, none⟩, ⟨none, .extract (.r 6) 1, none⟩, ⟨none, .extract (.r 6) 2, none⟩, ⟨none, .store 2 (.v 4) (.r 7), none⟩, ⟨none, .mov (.r 8), none⟩, ⟨some 5, .mov (.r 9), none⟩])
  (.seq (.seq (.region false [] [⟨none, .mov (.v 5), none⟩, ⟨some 6, .not (.r 0), none⟩])
  (.cond (.v 6) (.seq (.region false [] [⟨none, .load true 2 (.v 4), none⟩, ⟨none, .store 2 (.v 3) (.r 0), none⟩])
  .ret) .skip))
  (.seq (.seq (.region false [] [⟨none, .mov (.v 0), none⟩, ⟨some 7, .callm f_spec_l1Cur_pick [(.r 0), (.c (.int .i64 20))], none⟩])
  (.block 0 (.seq (.region false [] [⟨none, .bin false .eql (.v 7) (.c (.int .i64 0)), none⟩, ⟨some 8, .mov (.r 0), none⟩])
  (.cond (.v 8) (.region false [] [⟨none, .mov (.v 0), none⟩, ⟨none, .callm f_spec_l1Cur_pick [(.r 0), (.c (.int .i64 5))], none⟩, ⟨none, .faddr 0 (.v 4), none⟩, ⟨none, .store 1 (.r 2) (.r 1), none⟩]) (.seq (.region false [] [⟨none, .bin false .eql (.v 7) (.c (.int .i64 1)), none⟩, ⟨some 9, .mov (.r 0), none⟩])
  (.cond (.v 9) (.region true [(8, 1), (9, 1)] [⟨none, .faddr 1 (.v 4), none⟩, ⟨none, .load false 1 (.r 0), none⟩, ⟨none, .mov (.v 0), none⟩, ⟨none, .faddr 1 (.v 4), none⟩, ⟨none, .load false 1 (.r 3), none⟩, ⟨none, .len false (.r 4), none⟩, ⟨none, .mov (.v 0), none⟩, ⟨none, .bslice true t_int true 1 [(.c (.int .i64 (-1))), (.c (.int .i64 1)), (.c (.int .i64 2)), (.c (.int .i64 50)), (.c (.int .i64 51))], none⟩, ⟨none, .callm f_spec_l1Cur_pick [(.r 2), (.r 5)], none⟩, ⟨none, .callm f_spec_l1Cur_among [(.r 6), (.r 7)], none⟩, ⟨none, .iaddr 1 (.r 1) (.r 8), none⟩, ⟨none, .store 1 (.r 10) (.r 9), none⟩]) .skip))))))
  (.seq (.region false [] [⟨none, .load true 2 (.v 4), none⟩, ⟨none, .store 2 (.v 3) (.r 0), none⟩])
  .ret))))),
  [.cell true 2 3]⟩
def ir_spec_l14Case : IFun := ⟨[0, 1, 2, 3, 4, 14, 16, 17, 24],
  (.seq (.region false [] [⟨some 2, .box t_impl_Spec 2 (.v 0), none⟩, ⟨some 3, .box t_impl_Case 2 (.v 1), none⟩, ⟨some 4, .mov (.c (.bool false)), none⟩])
  (.seq (.seq (.region false [] [⟨none, .faddr 0 (.v 2), none⟩, ⟨none, .load false 1 (.r 0), none⟩, ⟨none, .faddr 1 (.v 2), none⟩, ⟨none, .load false 1 (.r 2), none⟩, ⟨none, .len false (.r 3), none⟩, ⟨none, .bin false .add (.r 1) (.r 4), none⟩, ⟨none, .faddr 1 (.v 3), none⟩, ⟨none, .load false 1 (.r 6), none⟩, ⟨none, .call false f_spec_GoodMark [(.r 5), (.r 7)], none⟩, ⟨some 5, .not (.r 8), none⟩])
  (.cond (.v 5) (.seq (.region false [] [⟨some 4, .mov (.c (.bool false)), none⟩])
  .ret) .skip))
  (.seq (.seq (.region false [] [⟨none, .faddr 0 (.v 3), none⟩, ⟨some 6, .load false 1 (.r 0), none⟩])
  (.block 0 (.seq (.region false [] [⟨none, .bin false .eql (.v 6) (.c (.int .i64 1)), none⟩, ⟨some 7, .mov (.r 0), none⟩])
  (.cond (.v 7) (.seq (.region false [] [⟨none, .faddr 1 (.v 3), none⟩, ⟨none, .load false 1 (.r 0), none⟩, ⟨none, .iaddr 1 (.r 1) (.c (.int .i64 1)), none⟩, ⟨none, .load false 1 (.r 2), none⟩, ⟨none, .bin false .eql (.r 3) (.c (.int .i64 0)), none⟩, ⟨some 4, .mov (.r 4), none⟩])
  .ret) (.seq (.region false [] [⟨none, .bin false .eql (.v 6) (.c (.int .i64 2)), none⟩, ⟨some 8, .mov (.r 0), none⟩])
  (.cond (.v 8) (.seq (.region false [] [⟨none, .faddr 1 (.v 3), none⟩, ⟨none, .load false 1 (.r 0), none⟩, ⟨none, .iaddr 1 (.r 1) (.c (.int .i64 1)), none⟩, ⟨none, .load false 1 (.r 2), none⟩, ⟨none, .bin false .gtr (.r 3) (.c (.int .i64 0)), none⟩, ⟨some 4, .mov (.r 4), none⟩])
  .ret) .skip))))))
  (.seq (.region false [] [⟨none, .faddr 0 (.v 3), none⟩, ⟨none, .load false 1 (.r 0), none⟩, ⟨none, .bin false .eql (.r 1) (.c (.int .i64 3)), none⟩, ⟨some 4, .mov (.r 2), none⟩])
  .ret)))),
  [.v 4]⟩
def ir_spec_GoodCase : IFun := ⟨[0, 1, 2, 3, 4],
  (.seq (.region false [] [⟨some 2, .box t_impl_Spec 2 (.v 0), none⟩, ⟨some 3, .box t_impl_Case 2 (.v 1), none⟩, ⟨some 4, .mov (.c (.bool false)), none⟩])
  (.seq (.region false [] [⟨none, .load true 2 (.v 2), none⟩, ⟨none, .call false f_spec_GoodSpec [(.r 0)], none⟩, ⟨none, .mov (.r 1), none⟩, ⟨none, .load true 2 (.v 2), some (2, true)⟩, ⟨none, .load true 2 (.v 3), some (2, true)⟩, ⟨none, .call false f_spec_l14Case [(.r 3), (.r 4)], some (2, true)⟩, ⟨none, .pick (.r 2) (.r 5) (.c (.bool false)), none⟩, ⟨some 4, .mov (.r 6), none⟩])
  .ret)),
  [.v 4]⟩
def ir_spec_MovesIn : IFun := ⟨[0, 1, 2, 3, 4, 5, 9],
  (.seq (.region false [] [⟨some 2, .box t_impl_Spec 2 (.v 0), none⟩, ⟨some 3, .box t_impl_Case 2 (.v 1), none⟩, ⟨some 4, .nilrow t_impl_Move true 3, none⟩, ⟨some 5, .mov (.c (.bool false)), none⟩])
  (.seq (.seq (.region false [] [⟨none, .load true 2 (.v 2), none⟩, ⟨none, .load true 2 (.v 3), none⟩, ⟨none, .call false f_spec_GoodCase [(.r 0), (.r 1)], none⟩, ⟨some 6, .not (.r 2), none⟩])
  (.cond (.v 6) (.seq (.region false [] [⟨some 4, .nilrow t_impl_Move true 3, none⟩, ⟨some 5, .mov (.c (.bool false)), none⟩])
  .ret) .skip))
  (.seq (.region false [] [⟨none, .load true 2 (.v 2), none⟩, ⟨none, .load true 2 (.v 3), none⟩, ⟨none, .call false f_spec_l14Moves [(.r 0), (.r 1)], none⟩, ⟨some 4, .mov (.r 2), none⟩, ⟨some 5, .mov (.c (.bool true)), none⟩])
  .ret))),
  [.v 4, .v 5]⟩
def ir_spec_DrawStepCase : IFun := ⟨[0, 2, 3, 4, 5, 6, 7, 8, 31],
  (.seq (.region false [] [⟨some 1, .alloc t_impl_Spec [(.int .i64 0), (.nil false 7)], none⟩, ⟨some 2, .alloc t_impl_Case [(.int .i64 0), (.nil true 1)], none⟩, ⟨some 3, .alloc t_impl_Move [(.int .i64 0), (.bool false), (.int .i64 0)], none⟩])
  (.seq (.region false [] [⟨none, .mov (.v 0), none⟩, ⟨none, .build [(.nil true 1), (.int .i64 0), (.int .u64 0)] [(0, 1, (.r 0))], none⟩, ⟨none, .box t_spec_l1Cur 3 (.r 1), none⟩, ⟨some 4, .mov (.r 2), none⟩])
  (.seq (.region false [] [⟨none, .mov (.v 4), none⟩, ⟨none, .callm f_spec_l1Cur_spec [(.r 0)], none⟩, ⟨some 5, .alloc t_impl_Spec [(.int .i64 0), (.nil false 7)], none⟩, ⟨none, .store 2 (.v 5) (.r 1), none⟩])
  (.seq (.region false [] [⟨none, .mov (.v 4), none⟩, ⟨none, .load true 2 (.v 5), none⟩, ⟨none, .callm f_spec_l1Cur_caseOf [(.r 0), (.r 1)], none⟩, ⟨some 6, .alloc t_impl_Case [(.int .i64 0), (.nil true 1)], none⟩, ⟨none, .store 2 (.v 6) (.r 2), none⟩])
  (.seq (.region false [] [⟨none, .load true 2 (.v 5), none⟩, ⟨none, .load true 2 (.v 6), none⟩, ⟨none, .call false f_spec_MovesIn [(.r 0), (.r 1)], none⟩, ⟨none, .mov (.r 2), none⟩, ⟨none, .extract (.r 3) 0, none⟩, ⟨none, .extract (.r 3) 1, none⟩, ⟨some 7, .mov (.r 4), none⟩, ⟨none, .mov (.r 5), none⟩])
  (.seq (.seq (.region false [] [⟨none, .mov (.v 7), none⟩, ⟨none, .len false (.r 0), none⟩, ⟨none, .bin false .gtr (.r 1) (.c (.int .i64 0)), none⟩, ⟨none, .mov (.r 2), none⟩, ⟨none, .mov (.v 4), some (3, true)⟩, ⟨none, .callm f_spec_l1Cur_one [(.r 4), (.c (.int .i64 6))], some (3, true)⟩, ⟨none, .not (.r 5), some (3, true)⟩, ⟨some 8, .pick (.r 3) (.r 6) (.c (.bool false)), none⟩])
  (.cond (.v 8) (.seq (.region true [(6, 0), (6, 1), (9, 1), (9, 8), (10, 8)] [⟨none, .load true 2 (.v 5), none⟩, ⟨none, .load true 2 (.v 6), none⟩, ⟨none, .mov (.v 7), none⟩, ⟨none, .mov (.v 4), none⟩, ⟨none, .mov (.v 7), none⟩, ⟨none, .len false (.r 4), none⟩, ⟨none, .callm f_spec_l1Cur_pick [(.r 3), (.r 5)], none⟩, ⟨none, .iaddr 3 (.r 2) (.r 6), none⟩, ⟨none, .load true 3 (.r 7), none⟩, ⟨none, .store 2 (.v 1) (.r 0), none⟩, ⟨none, .store 2 (.v 2) (.r 1), none⟩, ⟨none, .store 3 (.v 3) (.r 8), none⟩])
  .ret) .skip))
  (.seq (.region true [(5, 0), (5, 1), (6, 0), (6, 1), (7, 0), (7, 1), (9, 1)] [⟨none, .load true 2 (.v 5), none⟩, ⟨none, .load true 2 (.v 6), none⟩, ⟨none, .mov (.v 4), none⟩, ⟨none, .mov (.v 4), none⟩, ⟨none, .mov (.v 4), none⟩, ⟨none, .callm f_spec_l1Cur_pick [(.r 2), (.c (.int .i64 4))], none⟩, ⟨none, .callm f_spec_l1Cur_one [(.r 3), (.c (.int .i64 2))], none⟩, ⟨none, .callm f_spec_l1Cur_pick [(.r 4), (.c (.int .i64 3))], none⟩, ⟨none, .build [(.int .i64 0), (.bool false), (.int .i64 0)] [(0, 1, (.r 5)), (1, 1, (.r 6)), (2, 1, (.r 7))], none⟩, ⟨none, .store 2 (.v 1) (.r 0), none⟩, ⟨none, .store 2 (.v 2) (.r 1), none⟩, ⟨none, .store 3 (.v 3) (.r 8), none⟩])
  .ret))))))),
  [.cell true 2 1, .cell true 2 2, .cell true 3 3]⟩
def ir_impl_within : IFun := ⟨[0, 1, 2, 6],
  (.seq (.region false [] [⟨some 3, .mov (.c (.bool false)), none⟩])
  (.seq (.region false [] [⟨none, .mov (.v 0), none⟩, ⟨none, .mov (.v 1), none⟩, ⟨none, .bin false .geq (.r 0) (.r 1), none⟩, ⟨none, .mov (.r 2), none⟩, ⟨none, .mov (.v 0), some (3, true)⟩, ⟨none, .mov (.v 2), some (3, true)⟩, ⟨none, .bin false .leq (.r 4) (.r 5), some (3, true)⟩, ⟨none, .pick (.r 3) (.r 6) (.c (.bool false)), none⟩, ⟨some 3, .mov (.r 7), none⟩])
  .ret)),
  [.v 3]⟩
def ir_impl_increasing : IFun := ⟨[0, 2, 3, 7, 19],
  (.seq (.region false [] [⟨some 1, .mov (.c (.bool false)), none⟩])
  (.seq (.seq (.region false [] [⟨some 2, .mov (.c (.int .i64 1)), none⟩])
  (.block 0 (.loop [true, false, true, false, false] (.seq (.seq (.region false [] [⟨none, .mov (.v 2), none⟩, ⟨none, .mov (.v 0), none⟩, ⟨none, .len false (.r 1), none⟩, ⟨some 3, .bin false .lss (.r 0) (.r 2), none⟩])
  (.cond (.v 3) .skip (.exit 0)))
  (.seq (.block 1 (.seq (.region true [] [⟨none, .mov (.v 0), none⟩, ⟨none, .mov (.v 2), none⟩, ⟨none, .bin false .sub (.r 1) (.c (.int .i64 1)), none⟩, ⟨none, .iaddr 1 (.r 0) (.r 2), none⟩, ⟨none, .load false 1 (.r 3), none⟩, ⟨none, .mov (.v 0), none⟩, ⟨none, .mov (.v 2), none⟩, ⟨none, .iaddr 1 (.r 5) (.r 6), none⟩, ⟨none, .load false 1 (.r 7), none⟩, ⟨some 4, .bin false .geq (.r 4) (.r 8), none⟩])
  (.cond (.v 4) (.seq (.region false [] [⟨some 1, .mov (.c (.bool false)), none⟩])
  .ret) .skip)))
  (.region false [] [⟨none, .mov (.v 2), none⟩, ⟨none, .bin false .add (.r 0) (.c (.int .i64 1)), none⟩, ⟨some 2, .mov (.r 1), none⟩]))))))
  (.seq (.region false [] [⟨some 1, .mov (.c (.bool true)), none⟩])
  .ret))),
  [.v 1]⟩
def ir_impl_allWithin : IFun := ⟨[0, 1, 2, 6, 8, 9, 10, 11, 12, 19],
  (.seq (.region false [] [⟨some 3, .mov (.c (.bool false)), none⟩])
  (.seq (.seq (.region false [] [⟨some 5, .mov (.v 0), none⟩, ⟨some 6, .len false (.v 5), none⟩, ⟨some 7, .mov (.c (.int .i64 0)), none⟩])
  (.block 0 (.loop [false, true, true, false, false, true, true, true, false, false] (.seq (.region false [] [⟨some 8, .bin false .lss (.v 7) (.v 6), none⟩])
  (.seq (.cond (.v 8) .skip (.exit 0))
  (.seq (.block 1 (.seq (.region false [] [⟨none, .iaddr 1 (.v 5) (.v 7), none⟩, ⟨none, .load false 1 (.r 0), none⟩, ⟨some 4, .mov (.r 1), none⟩])
  (.seq (.region false [] [⟨none, .mov (.v 4), none⟩, ⟨none, .mov (.v 1), none⟩, ⟨none, .mov (.v 2), none⟩, ⟨none, .call false f_impl_within [(.r 0), (.r 1), (.r 2)], none⟩, ⟨some 9, .not (.r 3), none⟩])
  (.cond (.v 9) (.seq (.region false [] [⟨some 3, .mov (.c (.bool false)), none⟩])
  .ret) .skip))))
  (.region false [] [⟨none, .bin false .add (.v 7) (.c (.int .i64 1)), none⟩, ⟨some 7, .mov (.r 0), none⟩])))))))
  (.seq (.region false [] [⟨some 3, .mov (.c (.bool true)), none⟩])
  .ret))),
  [.v 3]⟩
def ir_impl_areConds : IFun := ⟨[0, 1, 2, 3, 6],
  (.seq (.region false [] [⟨some 3, .box t_impl_Spec 2 (.v 0), none⟩, ⟨some 4, .mov (.c (.bool false)), none⟩])
  (.seq (.region false [] [⟨none, .mov (.v 1), none⟩, ⟨none, .call false f_impl_increasing [(.r 0)], none⟩, ⟨none, .mov (.r 1), none⟩, ⟨none, .mov (.v 1), some (2, true)⟩, ⟨none, .mov (.v 2), some (2, true)⟩, ⟨none, .faddr 0 (.v 3), some (2, true)⟩, ⟨none, .load false 1 (.r 5), some (2, true)⟩, ⟨none, .bin false .sub (.r 6) (.c (.int .i64 1)), some (2, true)⟩, ⟨none, .call false f_impl_allWithin [(.r 3), (.r 4), (.r 7)], some (2, true)⟩, ⟨none, .pick (.r 2) (.r 8) (.c (.bool false)), none⟩, ⟨some 4, .mov (.r 9), none⟩])
  .ret)),
  [.v 4]⟩
def ir_slices_Index_sl_int_int : IFun := ⟨[0, 1, 4, 5, 7, 8, 9, 16],
  (.seq (.region false [] [⟨some 2, .mov (.c (.int .i64 0)), none⟩])
  (.seq (.seq (.region false [] [⟨none, .mov (.v 0), none⟩, ⟨some 4, .len false (.r 0), none⟩, ⟨some 5, .mov (.c (.int .i64 0)), none⟩])
  (.block 0 (.loop [true, true, false, false, true, true, false, false] (.seq (.region false [] [⟨some 6, .bin false .lss (.v 5) (.v 4), none⟩])
  (.seq (.cond (.v 6) .skip (.exit 0))
  (.seq (.block 1 (.seq (.region false [] [⟨none, .mov (.v 5), none⟩, ⟨some 3, .mov (.r 0), none⟩])
  (.seq (.region false [] [⟨none, .mov (.v 1), none⟩, ⟨none, .mov (.v 0), none⟩, ⟨none, .mov (.v 3), none⟩, ⟨none, .iaddr 1 (.r 1) (.r 2), none⟩, ⟨none, .load false 1 (.r 3), none⟩, ⟨some 7, .bin false .eql (.r 0) (.r 4), none⟩])
  (.cond (.v 7) (.seq (.region false [] [⟨none, .mov (.v 3), none⟩, ⟨some 2, .mov (.r 0), none⟩])
  .ret) .skip))))
  (.region false [] [⟨none, .bin false .add (.v 5) (.c (.int .i64 1)), none⟩, ⟨some 5, .mov (.r 0), none⟩])))))))
  (.seq (.region false [] [⟨some 2, .mov (.c (.int .i64 (-1))), none⟩])
  .ret))),
  [.v 2]⟩
def ir_slices_Contains_sl_int_int : IFun := ⟨[0, 1, 4],
  (.seq (.region false [] [⟨some 2, .mov (.c (.bool false)), none⟩])
  (.seq (.region false [] [⟨none, .mov (.v 0), none⟩, ⟨none, .mov (.v 1), none⟩, ⟨none, .call false f_slices_Index_sl_int_int [(.r 0), (.r 1)], none⟩, ⟨none, .bin false .geq (.r 2) (.c (.int .i64 0)), none⟩, ⟨some 2, .mov (.r 3), none⟩])
  .ret)),
  [.v 2]⟩
def ir_impl_isTask : IFun := ⟨[0, 1, 2, 4, 5],
  (.seq (.region false [] [⟨some 2, .box t_impl_Spec 2 (.v 0), none⟩, ⟨some 3, .mov (.c (.bool false)), none⟩])
  (.seq (.region false [] [⟨none, .faddr 1 (.v 2), none⟩, ⟨none, .load false 1 (.r 0), none⟩, ⟨none, .mov (.v 1), none⟩, ⟨none, .iaddr 7 (.r 1) (.r 2), none⟩, ⟨none, .load true 7 (.r 3), none⟩, ⟨some 4, .alloc t_impl_Task [(.int .i64 0), (.int .i64 0), (.nil true 1), (.nil true 1), (.nil true 1), (.nil true 1), (.int .i64 0)], none⟩, ⟨none, .store 7 (.v 4) (.r 4), none⟩])
  (.seq (.region false [] [⟨none, .faddr 0 (.v 4), none⟩, ⟨none, .load false 1 (.r 0), none⟩, ⟨none, .call false f_impl_within [(.r 1), (.c (.int .i64 1)), (.c (.int .i64 2))], none⟩, ⟨none, .mov (.r 2), none⟩, ⟨none, .faddr 1 (.v 4), some (3, true)⟩, ⟨none, .load false 1 (.r 4), some (3, true)⟩, ⟨none, .call false f_impl_within [(.r 5), (.c (.int .i64 1)), (.c (.int .i64 3))], some (3, true)⟩, ⟨none, .pick (.r 3) (.r 6) (.c (.bool false)), none⟩, ⟨none, .mov (.r 7), none⟩, ⟨none, .faddr 6 (.v 4), some (8, true)⟩, ⟨none, .load false 1 (.r 9), some (8, true)⟩, ⟨none, .call false f_impl_within [(.r 10), (.c (.int .i64 0)), (.c (.int .i64 3))], some (8, true)⟩, ⟨none, .pick (.r 8) (.r 11) (.c (.bool false)), none⟩, ⟨none, .mov (.r 12), none⟩, ⟨none, .faddr 2 (.v 4), some (13, true)⟩, ⟨none, .load false 1 (.r 14), some (13, true)⟩, ⟨none, .len false (.r 15), some (13, true)⟩, ⟨none, .call false f_impl_within [(.r 16), (.c (.int .i64 1)), (.c (.int .i64 3))], some (13, true)⟩, ⟨none, .pick (.r 13) (.r 17) (.c (.bool false)), none⟩, ⟨none, .mov (.r 18), none⟩, ⟨none, .load true 2 (.v 2), some (19, true)⟩, ⟨none, .faddr 2 (.v 4), some (19, true)⟩, ⟨none, .load false 1 (.r 21), some (19, true)⟩, ⟨none, .call false f_impl_areConds [(.r 20), (.r 22), (.c (.int .i64 0))], some (19, true)⟩, ⟨none, .pick (.r 19) (.r 23) (.c (.bool false)), none⟩, ⟨none, .mov (.r 24), none⟩, ⟨none, .faddr 3 (.v 4), some (25, true)⟩, ⟨none, .load false 1 (.r 26), some (25, true)⟩, ⟨none, .len false (.r 27), some (25, true)⟩, ⟨none, .call false f_impl_within [(.r 28), (.c (.int .i64 1)), (.c (.int .i64 3))], some (25, true)⟩, ⟨none, .pick (.r 25) (.r 29) (.c (.bool false)), none⟩, ⟨none, .mov (.r 30), none⟩, ⟨none, .load true 2 (.v 2), some (31, true)⟩, ⟨none, .faddr 3 (.v 4), some (31, true)⟩, ⟨none, .load false 1 (.r 33), some (31, true)⟩, ⟨none, .call false f_impl_areConds [(.r 32), (.r 34), (.c (.int .i64 0))], some (31, true)⟩, ⟨none, .pick (.r 31) (.r 35) (.c (.bool false)), none⟩, ⟨none, .mov (.r 36), none⟩, ⟨none, .load true 2 (.v 2), some (37, true)⟩, ⟨none, .faddr 4 (.v 4), some (37, true)⟩, ⟨none, .load false 1 (.r 39), some (37, true)⟩, ⟨none, .call false f_impl_areConds [(.r 38), (.r 40), (.c (.int .i64 2))], some (37, true)⟩, ⟨none, .pick (.r 37) (.r 41) (.c (.bool false)), none⟩, ⟨none, .mov (.r 42), none⟩, ⟨none, .faddr 5 (.v 4), some (43, true)⟩, ⟨none, .load false 1 (.r 44), some (43, true)⟩, ⟨none, .call false f_impl_increasing [(.r 45)], some (43, true)⟩, ⟨none, .pick (.r 43) (.r 46) (.c (.bool false)), none⟩, ⟨none, .mov (.r 47), none⟩, ⟨none, .faddr 5 (.v 4), some (48, true)⟩, ⟨none, .load false 1 (.r 49), some (48, true)⟩, ⟨none, .faddr 1 (.v 2), some (48, true)⟩, ⟨none, .load false 1 (.r 51), some (48, true)⟩, ⟨none, .len false (.r 52), some (48, true)⟩, ⟨none, .bin false .sub (.r 53) (.c (.int .i64 1)), some (48, true)⟩, ⟨none, .call false f_impl_allWithin [(.r 50), (.c (.int .i64 0)), (.r 54)], some (48, true)⟩, ⟨none, .pick (.r 48) (.r 55) (.c (.bool false)), none⟩, ⟨none, .mov (.r 56), none⟩, ⟨none, .faddr 5 (.v 4), some (57, true)⟩, ⟨none, .load false 1 (.r 58), some (57, true)⟩, ⟨none, .mov (.v 1), some (57, true)⟩, ⟨none, .call false f_slices_Contains_sl_int_int [(.r 59), (.r 60)], some (57, true)⟩, ⟨none, .not (.r 61), some (57, true)⟩, ⟨none, .pick (.r 57) (.r 62) (.c (.bool false)), none⟩, ⟨some 3, .mov (.r 63), none⟩])
  .ret))),
  [.v 3]⟩
def ir_impl_movesOf : IFun := ⟨[0, 1, 2, 3, 4, 5, 6, 7, 8, 10, 11, 12, 13, 31, 41, 47, 56, 63, 67, 68, 69],
  (.seq (.region false [] [⟨some 1, .box t_impl_Spec 2 (.v 0), none⟩, ⟨some 2, .nilrow t_impl_Move true 3, none⟩])
  (.seq (.region false [] [⟨some 3, .nilrow t_impl_Move true 3, none⟩])
  (.seq (.seq (.region false [] [⟨none, .faddr 1 (.v 1), none⟩, ⟨some 9, .load false 1 (.r 0), none⟩, ⟨some 10, .len false (.v 9), none⟩, ⟨some 11, .mov (.c (.int .i64 0)), none⟩])
  (.block 0 (.loop [false, false, false, true, false, false, false, false, false, true, true, true, false, false, false, false, false, false, false, false, false] (.seq (.region false [] [⟨some 12, .bin false .lss (.v 11) (.v 10), none⟩])
  (.seq (.cond (.v 12) .skip (.exit 0))
  (.seq (.block 1 (.seq (.region false [] [⟨none, .mov (.v 11), none⟩, ⟨none, .iaddr 7 (.v 9) (.v 11), none⟩, ⟨none, .load true 7 (.r 1), none⟩, ⟨some 5, .alloc t_impl_Task [(.int .i64 0), (.int .i64 0), (.nil true 1), (.nil true 1), (.nil true 1), (.nil true 1), (.int .i64 0)], none⟩, ⟨some 4, .mov (.r 0), none⟩, ⟨none, .store 7 (.v 5) (.r 2), none⟩])
  (.seq (.region false [] [⟨none, .mov (.v 3), none⟩, ⟨none, .mov (.v 4), none⟩, ⟨none, .build [(.int .i64 0), (.bool false), (.int .i64 0)] [(0, 1, (.r 1)), (1, 1, (.c (.bool true))), (2, 1, (.c (.int .i64 0)))], none⟩, ⟨none, .bslice false t_impl_Move true 3 [(.r 2)], none⟩, ⟨none, .append t_impl_Move true 3 (.r 0) (.r 3), none⟩, ⟨some 3, .mov (.r 4), none⟩])
  (.seq (.seq (.region false [] [⟨some 6, .mov (.c (.int .i64 1)), none⟩])
  (.block 2 (.loop [false, false, false, true, true, true, true, false, false, true, true, true, false, false, false, false, false, false, false, false, false] (.seq (.seq (.region false [] [⟨none, .faddr 0 (.v 5), none⟩, ⟨none, .load false 1 (.r 0), none⟩, ⟨none, .bin false .eql (.r 1) (.c (.int .i64 2)), none⟩, ⟨none, .mov (.r 2), none⟩, ⟨none, .mov (.v 6), some (3, true)⟩, ⟨none, .faddr 2 (.v 5), some (3, true)⟩, ⟨none, .load false 1 (.r 5), some (3, true)⟩, ⟨none, .len false (.r 6), some (3, true)⟩, ⟨none, .bin false .lss (.r 4) (.r 7), some (3, true)⟩, ⟨some 13, .pick (.r 3) (.r 8) (.c (.bool false)), none⟩])
  (.cond (.v 13) .skip (.exit 2)))
  (.seq (.block 3 (.region false [] [⟨none, .mov (.v 3), none⟩, ⟨none, .mov (.v 4), none⟩, ⟨none, .mov (.v 6), none⟩, ⟨none, .build [(.int .i64 0), (.bool false), (.int .i64 0)] [(0, 1, (.r 1)), (1, 1, (.c (.bool true))), (2, 1, (.r 2))], none⟩, ⟨none, .bslice false t_impl_Move true 3 [(.r 3)], none⟩, ⟨none, .append t_impl_Move true 3 (.r 0) (.r 4), none⟩, ⟨some 3, .mov (.r 5), none⟩]))
  (.region false [] [⟨none, .mov (.v 6), none⟩, ⟨none, .bin false .add (.r 0) (.c (.int .i64 1)), none⟩, ⟨some 6, .mov (.r 1), none⟩]))))))
  (.seq (.region false [] [⟨none, .faddr 1 (.v 5), none⟩, ⟨some 14, .load false 1 (.r 0), none⟩])
  (.block 4 (.seq (.region false [] [⟨none, .bin false .eql (.v 14) (.c (.int .i64 1)), none⟩, ⟨some 16, .mov (.r 0), none⟩])
  (.cond (.v 16) (.region false [] [⟨none, .mov (.v 3), none⟩, ⟨none, .mov (.v 4), none⟩, ⟨none, .build [(.int .i64 0), (.bool false), (.int .i64 0)] [(0, 1, (.r 1)), (1, 1, (.c (.bool false))), (2, 1, (.c (.int .i64 0)))], none⟩, ⟨none, .bslice false t_impl_Move true 3 [(.r 2)], none⟩, ⟨none, .append t_impl_Move true 3 (.r 0) (.r 3), none⟩, ⟨some 3, .mov (.r 4), none⟩]) (.seq (.region false [] [⟨none, .bin false .eql (.v 14) (.c (.int .i64 2)), none⟩, ⟨some 17, .mov (.r 0), none⟩])
  (.cond (.v 17) (.seq (.region false [] [⟨none, .faddr 3 (.v 5), none⟩, ⟨none, .load false 1 (.r 0), none⟩, ⟨some 18, .len false (.r 1), none⟩, ⟨some 19, .mov (.c (.int .i64 0)), none⟩])
  (.block 7 (.loop [false, false, false, true, true, false, false, false, false, true, true, true, false, false, false, false, false, false, true, true, false] (.seq (.region false [] [⟨some 20, .bin false .lss (.v 19) (.v 18), none⟩])
  (.seq (.cond (.v 20) .skip (.exit 7))
  (.seq (.block 8 (.seq (.region false [] [⟨none, .mov (.v 19), none⟩, ⟨some 7, .mov (.r 0), none⟩])
  (.region false [] [⟨none, .mov (.v 3), none⟩, ⟨none, .mov (.v 4), none⟩, ⟨none, .mov (.v 7), none⟩, ⟨none, .build [(.int .i64 0), (.bool false), (.int .i64 0)] [(0, 1, (.r 1)), (1, 1, (.c (.bool false))), (2, 1, (.r 2))], none⟩, ⟨none, .bslice false t_impl_Move true 3 [(.r 3)], none⟩, ⟨none, .append t_impl_Move true 3 (.r 0) (.r 4), none⟩, ⟨some 3, .mov (.r 5), none⟩])))
  (.region false [] [⟨none, .bin false .add (.v 19) (.c (.int .i64 1)), none⟩, ⟨some 19, .mov (.r 0), none⟩]))))))) (.seq (.region false [] [⟨some 8, .mov (.c (.int .i64 1)), none⟩])
  (.block 5 (.loop [false, false, false, true, true, true, false, false, true, true, true, true, false, false, false, false, false, false, false, false, false] (.seq (.seq (.region false [] [⟨none, .mov (.v 8), none⟩, ⟨none, .faddr 3 (.v 5), none⟩, ⟨none, .load false 1 (.r 1), none⟩, ⟨none, .len false (.r 2), none⟩, ⟨none, .bin false .shl (.c (.int .i64 1)) (.r 3), none⟩, ⟨some 15, .bin false .lss (.r 0) (.r 4), none⟩])
  (.cond (.v 15) .skip (.exit 5)))
  (.seq (.block 6 (.region false [] [⟨none, .mov (.v 3), none⟩, ⟨none, .mov (.v 4), none⟩, ⟨none, .mov (.v 8), none⟩, ⟨none, .build [(.int .i64 0), (.bool false), (.int .i64 0)] [(0, 1, (.r 1)), (1, 1, (.c (.bool false))), (2, 1, (.r 2))], none⟩, ⟨none, .bslice false t_impl_Move true 3 [(.r 3)], none⟩, ⟨none, .append t_impl_Move true 3 (.r 0) (.r 4), none⟩, ⟨some 3, .mov (.r 5), none⟩]))
  (.region false [] [⟨none, .mov (.v 8), none⟩, ⟨none, .bin false .add (.r 0) (.c (.int .i64 1)), none⟩, ⟨some 8, .mov (.r 1), none⟩]))))))))))))))))
  (.region false [] [⟨none, .bin false .add (.v 11) (.c (.int .i64 1)), none⟩, ⟨some 11, .mov (.r 0), none⟩])))))))
  (.seq (.region false [] [⟨none, .mov (.v 3), none⟩, ⟨some 2, .mov (.r 0), none⟩])
  .ret)))),
  [.v 2]⟩
def ir_impl_setOf : IFun := ⟨[0, 2, 3, 4, 8, 15],
  (.seq (.region false [] [⟨some 1, .nilrow t_int true 1, none⟩])
  (.seq (.region false [] [⟨some 2, .nilrow t_int true 1, none⟩])
  (.seq (.seq (.region false [] [⟨some 3, .mov (.c (.int .i64 0)), none⟩])
  (.block 0 (.loop [true, false, true, true, false, false] (.seq (.seq (.region false [] [⟨none, .mov (.v 0), none⟩, ⟨none, .mov (.v 3), none⟩, ⟨none, .bin false .shr (.r 0) (.r 1), none⟩, ⟨some 4, .bin false .neq (.r 2) (.c (.int .i64 0)), none⟩])
  (.cond (.v 4) .skip (.exit 0)))
  (.seq (.block 1 (.seq (.region false [] [⟨none, .mov (.v 0), none⟩, ⟨none, .mov (.v 3), none⟩, ⟨none, .bin false .shr (.r 0) (.r 1), none⟩, ⟨none, .bin false .and (.r 2) (.c (.int .i64 1)), none⟩, ⟨some 5, .bin false .eql (.r 3) (.c (.int .i64 1)), none⟩])
  (.cond (.v 5) (.region false [] [⟨none, .mov (.v 2), none⟩, ⟨none, .mov (.v 3), none⟩, ⟨none, .bslice false t_int true 1 [(.r 1)], none⟩, ⟨none, .append t_int true 1 (.r 0) (.r 2), none⟩, ⟨some 2, .mov (.r 3), none⟩]) .skip)))
  (.region false [] [⟨none, .mov (.v 3), none⟩, ⟨none, .bin false .add (.r 0) (.c (.int .i64 1)), none⟩, ⟨some 3, .mov (.r 1), none⟩]))))))
  (.seq (.region false [] [⟨none, .mov (.v 2), none⟩, ⟨some 1, .mov (.r 0), none⟩])
  .ret)))),
  [.v 1]⟩
def ir_impl_regionOf : IFun := ⟨[0, 1, 2, 4, 5, 7, 20, 21, 22, 23],
  (.seq (.region false [] [⟨some 2, .box t_impl_Spec 2 (.v 0), none⟩, ⟨some 3, .nilrow t_int true 1, none⟩])
  (.seq (.region false [] [⟨none, .faddr 1 (.v 2), none⟩, ⟨none, .load false 1 (.r 0), none⟩, ⟨none, .mov (.v 1), none⟩, ⟨none, .iaddr 7 (.r 1) (.r 2), none⟩, ⟨none, .faddr 4 (.r 3), none⟩, ⟨none, .load false 1 (.r 4), none⟩, ⟨none, .call false f_slices_Clone_sl_int_int [(.r 5)], none⟩, ⟨some 4, .mov (.r 6), none⟩])
  (.seq (.seq (.region false [] [⟨none, .faddr 1 (.v 2), none⟩, ⟨none, .load false 1 (.r 0), none⟩, ⟨none, .mov (.v 1), none⟩, ⟨none, .iaddr 7 (.r 1) (.r 2), none⟩, ⟨none, .faddr 5 (.r 3), none⟩, ⟨some 6, .load false 1 (.r 4), none⟩, ⟨some 7, .len false (.v 6), none⟩, ⟨some 8, .mov (.c (.int .i64 0)), none⟩])
  (.block 0 (.loop [false, false, true, false, true, false, true, true, true, false] (.seq (.region false [] [⟨some 9, .bin false .lss (.v 8) (.v 7), none⟩])
  (.seq (.cond (.v 9) .skip (.exit 0))
  (.seq (.block 1 (.seq (.region false [] [⟨none, .iaddr 1 (.v 6) (.v 8), none⟩, ⟨none, .load false 1 (.r 0), none⟩, ⟨some 5, .mov (.r 1), none⟩])
  (.region false [] [⟨none, .mov (.v 4), none⟩, ⟨none, .faddr 0 (.v 2), none⟩, ⟨none, .load false 1 (.r 1), none⟩, ⟨none, .mov (.v 5), none⟩, ⟨none, .bin false .add (.r 2) (.r 3), none⟩, ⟨none, .bslice false t_int true 1 [(.r 4)], none⟩, ⟨none, .append t_int true 1 (.r 0) (.r 5), none⟩, ⟨some 4, .mov (.r 6), none⟩])))
  (.region false [] [⟨none, .bin false .add (.v 8) (.c (.int .i64 1)), none⟩, ⟨some 8, .mov (.r 0), none⟩])))))))
  (.seq (.region false [] [⟨none, .mov (.v 4), none⟩, ⟨some 3, .mov (.r 0), none⟩])
  .ret)))),
  [.v 3]⟩
def ir_impl_transOf : IFun := ⟨[0, 1, 2, 3, 4, 5, 6, 7, 9, 23, 26, 45, 46, 55, 59, 60, 61, 62],
  (.seq (.region false [] [⟨some 2, .box t_impl_Spec 2 (.v 0), none⟩, ⟨some 3, .box t_impl_Move 3 (.v 1), none⟩, ⟨some 4, .alloc t_impl_Trans [(.nil true 1), (.nil true 1), (.nil true 1)], none⟩])
  (.seq (.region false [] [⟨none, .faddr 1 (.v 2), none⟩, ⟨none, .load false 1 (.r 0), none⟩, ⟨none, .faddr 0 (.v 3), none⟩, ⟨none, .load false 1 (.r 2), none⟩, ⟨none, .iaddr 7 (.r 1) (.r 3), none⟩, ⟨none, .load true 7 (.r 4), none⟩, ⟨some 5, .alloc t_impl_Task [(.int .i64 0), (.int .i64 0), (.nil true 1), (.nil true 1), (.nil true 1), (.nil true 1), (.int .i64 0)], none⟩, ⟨none, .store 7 (.v 5) (.r 5), none⟩])
  (.seq (.region false [] [⟨none, .faddr 0 (.v 2), none⟩, ⟨none, .load false 1 (.r 0), none⟩, ⟨none, .faddr 0 (.v 3), none⟩, ⟨none, .load false 1 (.r 2), none⟩, ⟨none, .bin false .add (.r 1) (.r 3), none⟩, ⟨none, .bslice false t_int true 1 [(.r 4)], none⟩, ⟨some 6, .mov (.r 5), none⟩])
  (.seq (.seq (.region false [] [⟨none, .faddr 1 (.v 3), none⟩, ⟨some 9, .load false 1 (.r 0), none⟩])
  (.cond (.v 9) (.seq (.seq (.region false [] [⟨none, .faddr 0 (.v 5), none⟩, ⟨none, .load false 1 (.r 0), none⟩, ⟨some 10, .bin false .eql (.r 1) (.c (.int .i64 2)), none⟩])
  (.cond (.v 10) (.seq (.region false [] [⟨none, .faddr 2 (.v 5), none⟩, ⟨none, .load false 1 (.r 0), none⟩, ⟨none, .faddr 2 (.v 3), none⟩, ⟨none, .load false 1 (.r 2), none⟩, ⟨none, .iaddr 1 (.r 1) (.r 3), none⟩, ⟨none, .load false 1 (.r 4), none⟩, ⟨none, .bslice false t_int true 1 [(.r 5)], none⟩, ⟨none, .mov (.v 6), none⟩, ⟨none, .build [(.nil true 1), (.nil true 1), (.nil true 1)] [(0, 1, (.r 6)), (1, 1, (.r 7))], none⟩, ⟨none, .store 3 (.v 4) (.r 8), none⟩])
  .ret) .skip))
  (.seq (.region false [] [⟨none, .faddr 2 (.v 5), none⟩, ⟨none, .load false 1 (.r 0), none⟩, ⟨none, .call false f_slices_Clone_sl_int_int [(.r 1)], none⟩, ⟨none, .mov (.v 6), none⟩, ⟨none, .build [(.nil true 1), (.nil true 1), (.nil true 1)] [(0, 1, (.r 2)), (1, 1, (.r 3))], none⟩, ⟨none, .store 3 (.v 4) (.r 4), none⟩])
  .ret)) .skip))
  (.seq (.region false [] [⟨none, .faddr 3 (.v 5), none⟩, ⟨none, .load false 1 (.r 0), none⟩, ⟨none, .call false f_slices_Clone_sl_int_int [(.r 1)], none⟩, ⟨some 7, .mov (.r 2), none⟩])
  (.seq (.seq (.region false [] [⟨none, .faddr 1 (.v 5), none⟩, ⟨some 11, .load false 1 (.r 0), none⟩])
  (.block 0 (.seq (.region false [] [⟨none, .bin false .eql (.v 11) (.c (.int .i64 2)), none⟩, ⟨some 12, .mov (.r 0), none⟩])
  (.cond (.v 12) (.region false [] [⟨none, .faddr 3 (.v 5), none⟩, ⟨none, .load false 1 (.r 0), none⟩, ⟨none, .faddr 2 (.v 3), none⟩, ⟨none, .load false 1 (.r 2), none⟩, ⟨none, .iaddr 1 (.r 1) (.r 3), none⟩, ⟨none, .load false 1 (.r 4), none⟩, ⟨none, .bslice false t_int true 1 [(.r 5)], none⟩, ⟨some 7, .mov (.r 6), none⟩]) (.seq (.region false [] [⟨none, .bin false .eql (.v 11) (.c (.int .i64 3)), none⟩, ⟨some 13, .mov (.r 0), none⟩])
  (.cond (.v 13) (.seq (.region false [] [⟨some 7, .nilrow t_int true 1, none⟩])
  (.seq (.region false [] [⟨none, .faddr 2 (.v 3), none⟩, ⟨none, .load false 1 (.r 0), none⟩, ⟨some 14, .call false f_impl_setOf [(.r 1)], none⟩, ⟨some 15, .len false (.v 14), none⟩, ⟨some 16, .mov (.c (.int .i64 0)), none⟩])
  (.block 1 (.loop [false, false, true, true, true, true, true, true, false, false, false, false, false, false, true, true, true, false] (.seq (.region false [] [⟨some 17, .bin false .lss (.v 16) (.v 15), none⟩])
  (.seq (.cond (.v 17) .skip (.exit 1))
  (.seq (.block 2 (.seq (.region false [] [⟨none, .iaddr 1 (.v 14) (.v 16), none⟩, ⟨none, .load false 1 (.r 0), none⟩, ⟨some 8, .mov (.r 1), none⟩])
  (.region false [] [⟨none, .mov (.v 7), none⟩, ⟨none, .faddr 3 (.v 5), none⟩, ⟨none, .load false 1 (.r 1), none⟩, ⟨none, .mov (.v 8), none⟩, ⟨none, .iaddr 1 (.r 2) (.r 3), none⟩, ⟨none, .load false 1 (.r 4), none⟩, ⟨none, .bslice false t_int true 1 [(.r 5)], none⟩, ⟨none, .append t_int true 1 (.r 0) (.r 6), none⟩, ⟨some 7, .mov (.r 7), none⟩])))
  (.region false [] [⟨none, .bin false .add (.v 16) (.c (.int .i64 1)), none⟩, ⟨some 16, .mov (.r 0), none⟩])))))))) .skip))))))
  (.seq (.region false [] [⟨none, .mov (.v 6), none⟩, ⟨none, .mov (.v 7), none⟩, ⟨none, .load true 2 (.v 2), none⟩, ⟨none, .faddr 0 (.v 3), none⟩, ⟨none, .load false 1 (.r 3), none⟩, ⟨none, .call false f_impl_regionOf [(.r 2), (.r 4)], none⟩, ⟨none, .build [(.nil true 1), (.nil true 1), (.nil true 1)] [(0, 1, (.r 0)), (1, 1, (.r 1)), (2, 1, (.r 5))], none⟩, ⟨none, .store 3 (.v 4) (.r 6), none⟩])
  .ret))))))),
  [.cell true 3 4]⟩
def ir_impl_specFlow : IFun := ⟨[0, 1, 2, 3, 5, 14, 15, 16, 17],
  (.seq (.region false [] [⟨some 1, .box t_impl_Spec 2 (.v 0), none⟩, ⟨some 2, .alloc t_impl_Flow [(.int .i64 0), (.nil false 3), (.int .i64 0), (.int .i64 0)], none⟩])
  (.seq (.region false [] [⟨none, .faddr 0 (.v 1), none⟩, ⟨none, .load false 1 (.r 0), none⟩, ⟨none, .faddr 1 (.v 1), none⟩, ⟨none, .load false 1 (.r 2), none⟩, ⟨none, .len false (.r 3), none⟩, ⟨none, .bin false .add (.r 1) (.r 4), none⟩, ⟨none, .build [(.int .i64 0), (.nil false 3)] [(0, 1, (.r 5))], none⟩, ⟨some 3, .alloc t_impl_Net [(.int .i64 0), (.nil false 3)], none⟩, ⟨none, .store 2 (.v 3) (.r 6), none⟩])
  (.seq (.seq (.region false [] [⟨none, .load true 2 (.v 1), none⟩, ⟨some 5, .call false f_impl_movesOf [(.r 0)], none⟩, ⟨some 6, .len false (.v 5), none⟩, ⟨some 7, .mov (.c (.int .i64 0)), none⟩])
  (.block 0 (.loop [false, true, true, true, false, true, true, true, false] (.seq (.region false [] [⟨some 8, .bin false .lss (.v 7) (.v 6), none⟩])
  (.seq (.cond (.v 8) .skip (.exit 0))
  (.seq (.block 1 (.seq (.region false [] [⟨none, .iaddr 3 (.v 5) (.v 7), none⟩, ⟨none, .load true 3 (.r 0), none⟩, ⟨some 4, .alloc t_impl_Move [(.int .i64 0), (.bool false), (.int .i64 0)], none⟩, ⟨none, .store 3 (.v 4) (.r 1), none⟩])
  (.region true [(4, 1), (5, 1)] [⟨none, .faddr 1 (.v 3), none⟩, ⟨none, .load false 1 (.r 0), none⟩, ⟨none, .load true 2 (.v 1), none⟩, ⟨none, .load true 3 (.v 4), none⟩, ⟨none, .call false f_impl_transOf [(.r 2), (.r 3)], none⟩, ⟨none, .bslice false t_impl_Trans false 3 [(.r 4)], none⟩, ⟨none, .append t_impl_Trans false 3 (.r 1) (.r 5), none⟩, ⟨none, .faddr 1 (.v 3), none⟩, ⟨none, .store 1 (.r 7) (.r 6), none⟩])))
  (.region false [] [⟨none, .bin false .add (.v 7) (.c (.int .i64 1)), none⟩, ⟨some 7, .mov (.r 0), none⟩])))))))
  (.seq (.region false [] [⟨none, .load true 2 (.v 3), none⟩, ⟨none, .build [(.int .i64 0), (.nil false 3), (.int .i64 0), (.int .i64 0)] [(0, 2, (.r 0)), (2, 1, (.c (.int .i64 0))), (3, 1, (.c (.int .i64 1)))], none⟩, ⟨none, .store 4 (.v 2) (.r 1), none⟩])
  .ret)))),
  [.cell true 4 2]⟩
def ir_impl_arePlaces : IFun := ⟨[0, 1, 2, 4],
  (.seq (.region false [] [⟨some 2, .box t_impl_Net 2 (.v 0), none⟩, ⟨some 3, .mov (.c (.bool false)), none⟩])
  (.seq (.region false [] [⟨none, .mov (.v 1), none⟩, ⟨none, .call false f_impl_increasing [(.r 0)], none⟩, ⟨none, .mov (.r 1), none⟩, ⟨none, .mov (.v 1), some (2, true)⟩, ⟨none, .faddr 0 (.v 2), some (2, true)⟩, ⟨none, .load false 1 (.r 4), some (2, true)⟩, ⟨none, .bin false .sub (.r 5) (.c (.int .i64 1)), some (2, true)⟩, ⟨none, .call false f_impl_allWithin [(.r 3), (.c (.int .i64 0)), (.r 6)], some (2, true)⟩, ⟨none, .pick (.r 2) (.r 7) (.c (.bool false)), none⟩, ⟨some 3, .mov (.r 8), none⟩])
  .ret)),
  [.v 3]⟩
def ir_impl_GoodNet_1 : IFun := ⟨[0, 1, 2, 3],
  (.seq (.region false [] [⟨some 2, .box t_impl_Trans 3 (.v 0), none⟩, ⟨some 3, .mov (.c (.bool false)), none⟩])
  (.seq (.region false [] [⟨none, .faddr 0 (.v 2), none⟩, ⟨none, .load false 1 (.r 0), none⟩, ⟨none, .len false (.r 1), none⟩, ⟨none, .bin false .eql (.r 2) (.c (.int .i64 0)), none⟩, ⟨none, .mov (.r 3), none⟩, ⟨none, .load true 2 (.v 1), some (4, false)⟩, ⟨none, .faddr 0 (.v 2), some (4, false)⟩, ⟨none, .load false 1 (.r 6), some (4, false)⟩, ⟨none, .call false f_impl_arePlaces [(.r 5), (.r 7)], some (4, false)⟩, ⟨none, .not (.r 8), some (4, false)⟩, ⟨none, .pick (.r 4) (.c (.bool true)) (.r 9), none⟩, ⟨none, .mov (.r 10), none⟩, ⟨none, .load true 2 (.v 1), some (11, false)⟩, ⟨none, .faddr 1 (.v 2), some (11, false)⟩, ⟨none, .load false 1 (.r 13), some (11, false)⟩, ⟨none, .call false f_impl_arePlaces [(.r 12), (.r 14)], some (11, false)⟩, ⟨none, .not (.r 15), some (11, false)⟩, ⟨none, .pick (.r 11) (.c (.bool true)) (.r 16), none⟩, ⟨none, .mov (.r 17), none⟩, ⟨none, .load true 2 (.v 1), some (18, false)⟩, ⟨none, .faddr 2 (.v 2), some (18, false)⟩, ⟨none, .load false 1 (.r 20), some (18, false)⟩, ⟨none, .call false f_impl_arePlaces [(.r 19), (.r 21)], some (18, false)⟩, ⟨none, .not (.r 22), some (18, false)⟩, ⟨none, .pick (.r 18) (.c (.bool true)) (.r 23), none⟩, ⟨some 3, .mov (.r 24), none⟩])
  .ret)),
  [.v 3]⟩
def ir_slices_IndexFunc_sl_impl_Trans_impl_Trans : IFun := ⟨[0, 1, 4, 5, 7, 8, 9, 16],
  (.seq (.region false [] [⟨some 2, .mov (.c (.int .i64 0)), none⟩])
  (.seq (.seq (.region false [] [⟨none, .mov (.v 0), none⟩, ⟨some 4, .len false (.r 0), none⟩, ⟨some 5, .mov (.c (.int .i64 0)), none⟩])
  (.block 0 (.loop [true, true, false, false, true, true, false, false] (.seq (.region false [] [⟨some 6, .bin false .lss (.v 5) (.v 4), none⟩])
  (.seq (.cond (.v 6) .skip (.exit 0))
  (.seq (.block 1 (.seq (.region false [] [⟨none, .mov (.v 5), none⟩, ⟨some 3, .mov (.r 0), none⟩])
  (.seq (.region false [] [⟨none, .mov (.v 1), none⟩, ⟨none, .mov (.v 0), none⟩, ⟨none, .mov (.v 3), none⟩, ⟨none, .iaddr 3 (.r 1) (.r 2), none⟩, ⟨none, .load true 3 (.r 3), none⟩, ⟨some 7, .callv false (.r 0) [(.r 4)], none⟩])
  (.cond (.v 7) (.seq (.region false [] [⟨none, .mov (.v 3), none⟩, ⟨some 2, .mov (.r 0), none⟩])
  .ret) .skip))))
  (.region false [] [⟨none, .bin false .add (.v 5) (.c (.int .i64 1)), none⟩, ⟨some 5, .mov (.r 0), none⟩])))))))
  (.seq (.region false [] [⟨some 2, .mov (.c (.int .i64 (-1))), none⟩])
  .ret))),
  [.v 2]⟩
def ir_slices_ContainsFunc_sl_impl_Trans_impl_Trans : IFun := ⟨[0, 1, 4],
  (.seq (.region false [] [⟨some 2, .mov (.c (.bool false)), none⟩])
  (.seq (.region false [] [⟨none, .mov (.v 0), none⟩, ⟨none, .mov (.v 1), none⟩, ⟨none, .call false f_slices_IndexFunc_sl_impl_Trans_impl_Trans [(.r 0), (.r 1)], none⟩, ⟨none, .bin false .geq (.r 2) (.c (.int .i64 0)), none⟩, ⟨some 2, .mov (.r 3), none⟩])
  .ret)),
  [.v 2]⟩
def ir_impl_GoodNet : IFun := ⟨[0, 1, 2],
  (.seq (.region false [] [⟨some 1, .box t_impl_Net 2 (.v 0), none⟩, ⟨some 2, .mov (.c (.bool false)), none⟩])
  (.seq (.region false [] [⟨none, .faddr 0 (.v 1), none⟩, ⟨none, .load false 1 (.r 0), none⟩, ⟨none, .call false f_impl_within [(.r 1), (.c (.int .i64 1)), (.c (.int .i64 16))], none⟩, ⟨none, .mov (.r 2), none⟩, ⟨none, .faddr 1 (.v 1), some (3, true)⟩, ⟨none, .load false 1 (.r 4), some (3, true)⟩, ⟨none, .len false (.r 5), some (3, true)⟩, ⟨none, .bin false .leq (.r 6) (.c (.int .i64 24)), some (3, true)⟩, ⟨none, .pick (.r 3) (.r 7) (.c (.bool false)), none⟩, ⟨none, .mov (.r 8), none⟩, ⟨none, .faddr 1 (.v 1), some (9, true)⟩, ⟨none, .load false 1 (.r 10), some (9, true)⟩, ⟨none, .mkfn f_impl_GoodNet_1 [(.v 1)], some (9, true)⟩, ⟨none, .call false f_slices_ContainsFunc_sl_impl_Trans_impl_Trans [(.r 11), (.r 12)], some (9, true)⟩, ⟨none, .not (.r 13), some (9, true)⟩, ⟨none, .pick (.r 9) (.r 14) (.c (.bool false)), none⟩, ⟨some 2, .mov (.r 15), none⟩])
  .ret)),
  [.v 2]⟩
def ir_impl_reachedFrom_1 : IFun := ⟨[0, 1, 3],
  (.seq (.region false [] [⟨some 2, .mov (.c (.bool false)), none⟩])
  (.seq (.region false [] [⟨none, .load false 1 (.v 1), none⟩, ⟨none, .mov (.v 0), none⟩, ⟨none, .iaddr 1 (.r 0) (.r 1), none⟩, ⟨none, .load false 1 (.r 2), none⟩, ⟨some 2, .mov (.r 3), none⟩])
  .ret)),
  [.v 2]⟩
def ir_slices_IndexFunc_sl_int_int : IFun := ⟨[0, 1, 4, 5, 7, 8, 9, 16],
  (.seq (.region false [] [⟨some 2, .mov (.c (.int .i64 0)), none⟩])
  (.seq (.seq (.region false [] [⟨none, .mov (.v 0), none⟩, ⟨some 4, .len false (.r 0), none⟩, ⟨some 5, .mov (.c (.int .i64 0)), none⟩])
  (.block 0 (.loop [true, true, false, false, true, true, false, false] (.seq (.region false [] [⟨some 6, .bin false .lss (.v 5) (.v 4), none⟩])
  (.seq (.cond (.v 6) .skip (.exit 0))
  (.seq (.block 1 (.seq (.region false [] [⟨none, .mov (.v 5), none⟩, ⟨some 3, .mov (.r 0), none⟩])
  (.seq (.region false [] [⟨none, .mov (.v 1), none⟩, ⟨none, .mov (.v 0), none⟩, ⟨none, .mov (.v 3), none⟩, ⟨none, .iaddr 1 (.r 1) (.r 2), none⟩, ⟨none, .load false 1 (.r 3), none⟩, ⟨some 7, .callv false (.r 0) [(.r 4)], none⟩])
  (.cond (.v 7) (.seq (.region false [] [⟨none, .mov (.v 3), none⟩, ⟨some 2, .mov (.r 0), none⟩])
  .ret) .skip))))
  (.region false [] [⟨none, .bin false .add (.v 5) (.c (.int .i64 1)), none⟩, ⟨some 5, .mov (.r 0), none⟩])))))))
  (.seq (.region false [] [⟨some 2, .mov (.c (.int .i64 (-1))), none⟩])
  .ret))),
  [.v 2]⟩
def ir_slices_ContainsFunc_sl_int_int : IFun := ⟨[0, 1, 4],
  (.seq (.region false [] [⟨some 2, .mov (.c (.bool false)), none⟩])
  (.seq (.region false [] [⟨none, .mov (.v 0), none⟩, ⟨none, .mov (.v 1), none⟩, ⟨none, .call false f_slices_IndexFunc_sl_int_int [(.r 0), (.r 1)], none⟩, ⟨none, .bin false .geq (.r 2) (.c (.int .i64 0)), none⟩, ⟨some 2, .mov (.r 3), none⟩])
  .ret)),
  [.v 2]⟩
def ir_impl_reachedFrom : IFun := ⟨[0, 1, 2, 3, 6, 7, 8, 9, 10, 11, 12, 13, 14, 16, 27, 29, 30, 31, 32, 40, 52, 56, 57, 58, 59],
  (.seq (.region false [] [⟨some 3, .box t_impl_Net 2 (.v 0), none⟩, ⟨some 4, .nilrow t_bool true 1, none⟩, ⟨some 5, .nilrow t_bool true 1, none⟩])
  (.seq (.region true [(8, 4)] [⟨none, .faddr 0 (.v 3), none⟩, ⟨none, .load false 1 (.r 0), none⟩, ⟨none, .mk t_bool true 1 (.bool false) (.r 1), none⟩, ⟨none, .faddr 1 (.v 3), none⟩, ⟨none, .load false 1 (.r 3), none⟩, ⟨none, .len false (.r 4), none⟩, ⟨none, .mk t_bool true 1 (.bool false) (.r 5), none⟩, ⟨some 6, .alloc t_sl_bool [(.nil true 1)], none⟩, ⟨none, .store 1 (.v 6) (.r 2), none⟩, ⟨some 7, .mov (.r 6), none⟩])
  (.seq (.region false [] [⟨none, .load false 1 (.v 6), none⟩, ⟨none, .mov (.v 1), none⟩, ⟨none, .iaddr 1 (.r 0) (.r 1), none⟩, ⟨none, .store 1 (.r 2) (.c (.bool true)), none⟩])
  (.seq (.seq (.region false [] [⟨some 8, .mov (.c (.bool true)), none⟩])
  (.block 0 (.loop [false, false, true, true, false, false, true, true, true, false, false, false, false, false, false, false, false, false, false, false, false, false, false, false, false] (.seq (.seq (.region false [] [⟨some 14, .mov (.v 8), none⟩])
  (.cond (.v 14) .skip (.exit 0)))
  (.block 1 (.seq (.region false [] [⟨some 8, .mov (.c (.bool false)), none⟩])
  (.seq (.region false [] [⟨none, .faddr 1 (.v 3), none⟩, ⟨some 15, .load false 1 (.r 0), none⟩, ⟨some 16, .len false (.v 15), none⟩, ⟨some 17, .mov (.c (.int .i64 0)), none⟩])
  (.block 2 (.loop [false, false, true, true, false, false, true, true, true, false, false, false, false, false, false, true, true, true, false, false, false, false, false, false, false] (.seq (.region false [] [⟨some 18, .bin false .lss (.v 17) (.v 16), none⟩])
  (.seq (.cond (.v 18) .skip (.exit 2))
  (.seq (.block 3 (.seq (.region false [] [⟨none, .mov (.v 17), none⟩, ⟨none, .iaddr 3 (.v 15) (.v 17), none⟩, ⟨none, .load true 3 (.r 1), none⟩, ⟨some 10, .alloc t_impl_Trans [(.nil true 1), (.nil true 1), (.nil true 1)], none⟩, ⟨some 9, .mov (.r 0), none⟩, ⟨none, .store 3 (.v 10) (.r 2), none⟩])
  (.seq (.region true [] [⟨none, .faddr 0 (.v 10), none⟩, ⟨none, .load false 1 (.r 0), none⟩, ⟨none, .faddr 1 (.v 10), none⟩, ⟨none, .load false 1 (.r 2), none⟩, ⟨some 11, .mov (.r 1), none⟩, ⟨some 12, .mov (.r 3), none⟩])
  (.seq (.seq (.region false [] [⟨some 19, .mov (.v 2), none⟩])
  (.cond (.v 19) (.region false [] [⟨none, .mov (.v 12), none⟩, ⟨none, .mov (.v 11), none⟩, ⟨some 11, .mov (.r 0), none⟩, ⟨some 12, .mov (.r 1), none⟩]) .skip))
  (.seq (.seq (.region false [] [⟨none, .mov (.v 7), none⟩, ⟨none, .mov (.v 9), none⟩, ⟨none, .iaddr 1 (.r 0) (.r 1), none⟩, ⟨none, .load false 1 (.r 2), none⟩, ⟨none, .mov (.r 3), none⟩, ⟨none, .mov (.v 11), some (4, false)⟩, ⟨none, .mkfn f_impl_reachedFrom_1 [(.v 6)], some (4, false)⟩, ⟨none, .call false f_slices_ContainsFunc_sl_int_int [(.r 5), (.r 6)], some (4, false)⟩, ⟨none, .not (.r 7), some (4, false)⟩, ⟨some 20, .pick (.r 4) (.c (.bool true)) (.r 8), none⟩])
  (.cond (.v 20) (.exit 3) .skip))
  (.seq (.region false [] [⟨none, .mov (.v 7), none⟩, ⟨none, .mov (.v 9), none⟩, ⟨none, .iaddr 1 (.r 0) (.r 1), none⟩, ⟨none, .store 1 (.r 2) (.c (.bool true)), none⟩, ⟨some 8, .mov (.c (.bool true)), none⟩])
  (.seq (.region false [] [⟨some 21, .mov (.v 12), none⟩, ⟨some 22, .len false (.v 21), none⟩, ⟨some 23, .mov (.c (.int .i64 0)), none⟩])
  (.block 4 (.loop [false, false, true, true, false, false, true, true, true, false, false, false, false, false, false, true, true, true, false, false, false, true, true, true, false] (.seq (.region false [] [⟨some 24, .bin false .lss (.v 23) (.v 22), none⟩])
  (.seq (.cond (.v 24) .skip (.exit 4))
  (.seq (.block 5 (.seq (.region false [] [⟨none, .iaddr 1 (.v 21) (.v 23), none⟩, ⟨none, .load false 1 (.r 0), none⟩, ⟨some 13, .mov (.r 1), none⟩])
  (.region false [] [⟨none, .load false 1 (.v 6), none⟩, ⟨none, .mov (.v 13), none⟩, ⟨none, .iaddr 1 (.r 0) (.r 1), none⟩, ⟨none, .store 1 (.r 2) (.c (.bool true)), none⟩])))
  (.region false [] [⟨none, .bin false .add (.v 23) (.c (.int .i64 1)), none⟩, ⟨some 23, .mov (.r 0), none⟩])))))))))))))
  (.region false [] [⟨none, .bin false .add (.v 17) (.c (.int .i64 1)), none⟩, ⟨some 17, .mov (.r 0), none⟩])))))))))))))
  (.seq (.region false [] [⟨none, .load false 1 (.v 6), none⟩, ⟨none, .mov (.v 7), none⟩, ⟨some 4, .mov (.r 0), none⟩, ⟨some 5, .mov (.r 1), none⟩])
  .ret))))),
  [.v 4, .v 5]⟩
def ir_impl_bothOf : IFun := ⟨[0, 1, 4, 5, 6, 7, 8, 9, 10, 11, 21],
  (.seq (.region false [] [⟨some 2, .nilrow t_int true 1, none⟩])
  (.seq (.region false [] [⟨some 3, .nilrow t_int true 1, none⟩])
  (.seq (.seq (.region false [] [⟨some 6, .mov (.v 0), none⟩, ⟨some 7, .len false (.v 6), none⟩, ⟨some 8, .mov (.c (.int .i64 0)), none⟩])
  (.block 0 (.loop [false, true, false, true, false, false, true, true, true, false, false] (.seq (.region false [] [⟨some 9, .bin false .lss (.v 8) (.v 7), none⟩])
  (.seq (.cond (.v 9) .skip (.exit 0))
  (.seq (.block 1 (.seq (.region false [] [⟨none, .mov (.v 8), none⟩, ⟨none, .iaddr 1 (.v 6) (.v 8), none⟩, ⟨none, .load false 1 (.r 1), none⟩, ⟨some 4, .mov (.r 0), none⟩, ⟨some 5, .mov (.r 2), none⟩])
  (.seq (.region false [] [⟨none, .mov (.v 5), none⟩, ⟨none, .mov (.r 0), none⟩, ⟨none, .mov (.v 1), some (1, true)⟩, ⟨none, .mov (.v 4), some (1, true)⟩, ⟨none, .iaddr 1 (.r 2) (.r 3), some (1, true)⟩, ⟨none, .load false 1 (.r 4), some (1, true)⟩, ⟨some 10, .pick (.r 1) (.r 5) (.c (.bool false)), none⟩])
  (.cond (.v 10) (.region false [] [⟨none, .mov (.v 3), none⟩, ⟨none, .mov (.v 4), none⟩, ⟨none, .bslice false t_int true 1 [(.r 1)], none⟩, ⟨none, .append t_int true 1 (.r 0) (.r 2), none⟩, ⟨some 3, .mov (.r 3), none⟩]) .skip))))
  (.region false [] [⟨none, .bin false .add (.v 8) (.c (.int .i64 1)), none⟩, ⟨some 8, .mov (.r 0), none⟩])))))))
  (.seq (.region false [] [⟨none, .mov (.v 3), none⟩, ⟨some 2, .mov (.r 0), none⟩])
  .ret)))),
  [.v 2]⟩
def ir_impl_onWay : IFun := ⟨[0, 1, 2, 3, 6, 7, 8, 9, 10, 11],
  (.seq (.region false [] [⟨some 3, .box t_impl_Net 2 (.v 0), none⟩, ⟨some 4, .nilrow t_int true 1, none⟩, ⟨some 5, .nilrow t_int true 1, none⟩])
  (.seq (.region false [] [⟨none, .load true 2 (.v 3), none⟩, ⟨none, .mov (.v 1), none⟩, ⟨none, .call false f_impl_reachedFrom [(.r 0), (.r 1), (.c (.bool false))], none⟩, ⟨none, .mov (.r 2), none⟩, ⟨none, .extract (.r 3) 0, none⟩, ⟨none, .extract (.r 3) 1, none⟩, ⟨some 6, .mov (.r 4), none⟩, ⟨some 7, .mov (.r 5), none⟩])
  (.seq (.region false [] [⟨none, .load true 2 (.v 3), none⟩, ⟨none, .mov (.v 2), none⟩, ⟨none, .call false f_impl_reachedFrom [(.r 0), (.r 1), (.c (.bool true))], none⟩, ⟨none, .mov (.r 2), none⟩, ⟨none, .extract (.r 3) 0, none⟩, ⟨none, .extract (.r 3) 1, none⟩, ⟨some 8, .mov (.r 4), none⟩, ⟨some 9, .mov (.r 5), none⟩])
  (.seq (.region false [] [⟨none, .mov (.v 6), none⟩, ⟨none, .mov (.v 8), none⟩, ⟨none, .call false f_impl_bothOf [(.r 0), (.r 1)], none⟩, ⟨none, .mov (.v 7), none⟩, ⟨none, .mov (.v 9), none⟩, ⟨none, .call false f_impl_bothOf [(.r 3), (.r 4)], none⟩, ⟨some 4, .mov (.r 2), none⟩, ⟨some 5, .mov (.r 5), none⟩])
  .ret)))),
  [.v 4, .v 5]⟩
def ir_impl_GoodFlow : IFun := ⟨[0, 1, 2, 3, 5, 6, 7, 37, 39, 40, 41, 42, 70],
  (.seq (.region false [] [⟨some 1, .box t_impl_Flow 4 (.v 0), none⟩, ⟨some 2, .mov (.c (.bool false)), none⟩])
  (.seq (.region false [] [⟨none, .faddr 0 (.v 1), none⟩, ⟨none, .load true 2 (.r 0), none⟩, ⟨some 3, .alloc t_impl_Net [(.int .i64 0), (.nil false 3)], none⟩, ⟨none, .store 2 (.v 3) (.r 1), none⟩])
  (.seq (.seq (.region false [] [⟨none, .load true 2 (.v 3), none⟩, ⟨none, .call false f_impl_GoodNet [(.r 0)], none⟩, ⟨none, .not (.r 1), none⟩, ⟨none, .mov (.r 2), none⟩, ⟨none, .faddr 2 (.v 1), some (3, false)⟩, ⟨none, .load false 1 (.r 4), some (3, false)⟩, ⟨none, .faddr 0 (.v 3), some (3, false)⟩, ⟨none, .load false 1 (.r 6), some (3, false)⟩, ⟨none, .bin false .sub (.r 7) (.c (.int .i64 1)), some (3, false)⟩, ⟨none, .call false f_impl_within [(.r 5), (.c (.int .i64 0)), (.r 8)], some (3, false)⟩, ⟨none, .not (.r 9), some (3, false)⟩, ⟨none, .pick (.r 3) (.c (.bool true)) (.r 10), none⟩, ⟨none, .mov (.r 11), none⟩, ⟨none, .faddr 3 (.v 1), some (12, false)⟩, ⟨none, .load false 1 (.r 13), some (12, false)⟩, ⟨none, .faddr 0 (.v 3), some (12, false)⟩, ⟨none, .load false 1 (.r 15), some (12, false)⟩, ⟨none, .bin false .sub (.r 16) (.c (.int .i64 1)), some (12, false)⟩, ⟨none, .call false f_impl_within [(.r 14), (.c (.int .i64 0)), (.r 17)], some (12, false)⟩, ⟨none, .not (.r 18), some (12, false)⟩, ⟨none, .pick (.r 12) (.c (.bool true)) (.r 19), none⟩, ⟨none, .mov (.r 20), none⟩, ⟨none, .faddr 2 (.v 1), some (21, false)⟩, ⟨none, .load false 1 (.r 22), some (21, false)⟩, ⟨none, .faddr 3 (.v 1), some (21, false)⟩, ⟨none, .load false 1 (.r 24), some (21, false)⟩, ⟨none, .bin false .eql (.r 23) (.r 25), some (21, false)⟩, ⟨some 7, .pick (.r 21) (.c (.bool true)) (.r 26), none⟩])
  (.cond (.v 7) (.seq (.region false [] [⟨some 2, .mov (.c (.bool false)), none⟩])
  .ret) .skip))
  (.seq (.seq (.region false [] [⟨none, .faddr 1 (.v 3), none⟩, ⟨some 8, .load false 1 (.r 0), none⟩, ⟨some 9, .len false (.v 8), none⟩, ⟨some 10, .mov (.c (.int .i64 0)), none⟩])
  (.block 0 (.loop [false, true, false, true, false, false, false, false, true, true, true, false, false] (.seq (.region false [] [⟨some 11, .bin false .lss (.v 10) (.v 9), none⟩])
  (.seq (.cond (.v 11) .skip (.exit 0))
  (.seq (.block 1 (.seq (.region false [] [⟨none, .iaddr 3 (.v 8) (.v 10), none⟩, ⟨none, .load true 3 (.r 0), none⟩, ⟨some 4, .alloc t_impl_Trans [(.nil true 1), (.nil true 1), (.nil true 1)], none⟩, ⟨none, .store 3 (.v 4) (.r 1), none⟩])
  (.seq (.region false [] [⟨none, .faddr 1 (.v 4), none⟩, ⟨none, .load false 1 (.r 0), none⟩, ⟨none, .faddr 2 (.v 1), none⟩, ⟨none, .load false 1 (.r 2), none⟩, ⟨none, .call false f_slices_Contains_sl_int_int [(.r 1), (.r 3)], none⟩, ⟨none, .mov (.r 4), none⟩, ⟨none, .faddr 0 (.v 4), some (5, false)⟩, ⟨none, .load false 1 (.r 6), some (5, false)⟩, ⟨none, .faddr 3 (.v 1), some (5, false)⟩, ⟨none, .load false 1 (.r 8), some (5, false)⟩, ⟨none, .call false f_slices_Contains_sl_int_int [(.r 7), (.r 9)], some (5, false)⟩, ⟨none, .pick (.r 5) (.c (.bool true)) (.r 10), none⟩, ⟨none, .mov (.r 11), none⟩, ⟨none, .faddr 2 (.v 4), some (12, false)⟩, ⟨none, .load false 1 (.r 13), some (12, false)⟩, ⟨none, .faddr 2 (.v 1), some (12, false)⟩, ⟨none, .load false 1 (.r 15), some (12, false)⟩, ⟨none, .call false f_slices_Contains_sl_int_int [(.r 14), (.r 16)], some (12, false)⟩, ⟨none, .pick (.r 12) (.c (.bool true)) (.r 17), none⟩, ⟨none, .mov (.r 18), none⟩, ⟨none, .faddr 2 (.v 4), some (19, false)⟩, ⟨none, .load false 1 (.r 20), some (19, false)⟩, ⟨none, .faddr 3 (.v 1), some (19, false)⟩, ⟨none, .load false 1 (.r 22), some (19, false)⟩, ⟨none, .call false f_slices_Contains_sl_int_int [(.r 21), (.r 23)], some (19, false)⟩, ⟨some 12, .pick (.r 19) (.c (.bool true)) (.r 24), none⟩])
  (.cond (.v 12) (.seq (.region false [] [⟨some 2, .mov (.c (.bool false)), none⟩])
  .ret) .skip))))
  (.region false [] [⟨none, .bin false .add (.v 10) (.c (.int .i64 1)), none⟩, ⟨some 10, .mov (.r 0), none⟩])))))))
  (.seq (.region false [] [⟨none, .load true 2 (.v 3), none⟩, ⟨none, .faddr 2 (.v 1), none⟩, ⟨none, .load false 1 (.r 1), none⟩, ⟨none, .faddr 3 (.v 1), none⟩, ⟨none, .load false 1 (.r 3), none⟩, ⟨none, .call false f_impl_onWay [(.r 0), (.r 2), (.r 4)], none⟩, ⟨none, .mov (.r 5), none⟩, ⟨none, .extract (.r 6) 0, none⟩, ⟨none, .extract (.r 6) 1, none⟩, ⟨some 5, .mov (.r 7), none⟩, ⟨some 6, .mov (.r 8), none⟩])
  (.seq (.region false [] [⟨none, .mov (.v 5), none⟩, ⟨none, .len false (.r 0), none⟩, ⟨none, .faddr 0 (.v 3), none⟩, ⟨none, .load false 1 (.r 2), none⟩, ⟨none, .bin false .eql (.r 1) (.r 3), none⟩, ⟨none, .mov (.r 4), none⟩, ⟨none, .mov (.v 6), some (5, true)⟩, ⟨none, .len false (.r 6), some (5, true)⟩, ⟨none, .faddr 1 (.v 3), some (5, true)⟩, ⟨none, .load false 1 (.r 8), some (5, true)⟩, ⟨none, .len false (.r 9), some (5, true)⟩, ⟨none, .bin false .eql (.r 7) (.r 10), some (5, true)⟩, ⟨none, .pick (.r 5) (.r 11) (.c (.bool false)), none⟩, ⟨some 2, .mov (.r 12), none⟩])
  .ret)))))),
  [.v 2]⟩
def ir_impl_isSpec : IFun := ⟨[0, 1, 2, 3, 14, 17, 18, 19, 24],
  (.seq (.region false [] [⟨some 1, .box t_impl_Spec 2 (.v 0), none⟩, ⟨some 2, .mov (.c (.bool false)), none⟩])
  (.seq (.seq (.region false [] [⟨none, .faddr 0 (.v 1), none⟩, ⟨none, .load false 1 (.r 0), none⟩, ⟨none, .call false f_impl_within [(.r 1), (.c (.int .i64 2)), (.c (.int .i64 8))], none⟩, ⟨none, .not (.r 2), none⟩, ⟨none, .mov (.r 3), none⟩, ⟨none, .faddr 1 (.v 1), some (4, false)⟩, ⟨none, .load false 1 (.r 5), some (4, false)⟩, ⟨none, .len false (.r 6), some (4, false)⟩, ⟨none, .call false f_impl_within [(.r 7), (.c (.int .i64 1)), (.c (.int .i64 6))], some (4, false)⟩, ⟨none, .not (.r 8), some (4, false)⟩, ⟨some 4, .pick (.r 4) (.c (.bool true)) (.r 9), none⟩])
  (.cond (.v 4) (.seq (.region false [] [⟨some 2, .mov (.c (.bool false)), none⟩])
  .ret) .skip))
  (.seq (.seq (.region false [] [⟨none, .faddr 1 (.v 1), none⟩, ⟨none, .load false 1 (.r 0), none⟩, ⟨some 5, .len false (.r 1), none⟩, ⟨some 6, .mov (.c (.int .i64 0)), none⟩])
  (.block 0 (.loop [false, true, false, false, false, true, true, false, false] (.seq (.region false [] [⟨some 7, .bin false .lss (.v 6) (.v 5), none⟩])
  (.seq (.cond (.v 7) .skip (.exit 0))
  (.seq (.block 1 (.seq (.region false [] [⟨none, .mov (.v 6), none⟩, ⟨some 3, .mov (.r 0), none⟩])
  (.seq (.region false [] [⟨none, .load true 2 (.v 1), none⟩, ⟨none, .mov (.v 3), none⟩, ⟨none, .call false f_impl_isTask [(.r 0), (.r 1)], none⟩, ⟨some 8, .not (.r 2), none⟩])
  (.cond (.v 8) (.seq (.region false [] [⟨some 2, .mov (.c (.bool false)), none⟩])
  .ret) .skip))))
  (.region false [] [⟨none, .bin false .add (.v 6) (.c (.int .i64 1)), none⟩, ⟨some 6, .mov (.r 0), none⟩])))))))
  (.seq (.region false [] [⟨none, .load true 2 (.v 1), none⟩, ⟨none, .call false f_impl_specFlow [(.r 0)], none⟩, ⟨none, .call false f_impl_GoodFlow [(.r 1)], none⟩, ⟨some 2, .mov (.r 2), none⟩])
  .ret)))),
  [.v 2]⟩
def ir_impl_GoodMark : IFun := ⟨[0, 1, 4],
  (.seq (.region false [] [⟨some 2, .mov (.c (.bool false)), none⟩])
  (.seq (.region false [] [⟨none, .mov (.v 0), none⟩, ⟨none, .call false f_impl_within [(.r 0), (.c (.int .i64 1)), (.c (.int .i64 16))], none⟩, ⟨none, .mov (.r 1), none⟩, ⟨none, .mov (.v 1), some (2, true)⟩, ⟨none, .len false (.r 3), some (2, true)⟩, ⟨none, .mov (.v 0), some (2, true)⟩, ⟨none, .bin false .eql (.r 4) (.r 5), some (2, true)⟩, ⟨none, .pick (.r 2) (.r 6) (.c (.bool false)), none⟩, ⟨none, .mov (.r 7), none⟩, ⟨none, .mov (.v 1), some (8, true)⟩, ⟨none, .call false f_impl_allWithin [(.r 9), (.c (.int .i64 0)), (.c (.int .i64 50))], some (8, true)⟩, ⟨none, .pick (.r 8) (.r 10) (.c (.bool false)), none⟩, ⟨some 2, .mov (.r 11), none⟩])
  .ret)),
  [.v 2]⟩
def ir_impl_isCase : IFun := ⟨[0, 1, 2, 3, 4, 14, 16, 17, 24],
  (.seq (.region false [] [⟨some 2, .box t_impl_Spec 2 (.v 0), none⟩, ⟨some 3, .box t_impl_Case 2 (.v 1), none⟩, ⟨some 4, .mov (.c (.bool false)), none⟩])
  (.seq (.seq (.region false [] [⟨none, .faddr 0 (.v 2), none⟩, ⟨none, .load false 1 (.r 0), none⟩, ⟨none, .faddr 1 (.v 2), none⟩, ⟨none, .load false 1 (.r 2), none⟩, ⟨none, .len false (.r 3), none⟩, ⟨none, .bin false .add (.r 1) (.r 4), none⟩, ⟨none, .faddr 1 (.v 3), none⟩, ⟨none, .load false 1 (.r 6), none⟩, ⟨none, .call false f_impl_GoodMark [(.r 5), (.r 7)], none⟩, ⟨some 5, .not (.r 8), none⟩])
  (.cond (.v 5) (.seq (.region false [] [⟨some 4, .mov (.c (.bool false)), none⟩])
  .ret) .skip))
  (.seq (.seq (.region false [] [⟨none, .faddr 0 (.v 3), none⟩, ⟨some 6, .load false 1 (.r 0), none⟩])
  (.block 0 (.seq (.region false [] [⟨none, .bin false .eql (.v 6) (.c (.int .i64 1)), none⟩, ⟨some 7, .mov (.r 0), none⟩])
  (.cond (.v 7) (.seq (.region false [] [⟨none, .faddr 1 (.v 3), none⟩, ⟨none, .load false 1 (.r 0), none⟩, ⟨none, .iaddr 1 (.r 1) (.c (.int .i64 1)), none⟩, ⟨none, .load false 1 (.r 2), none⟩, ⟨none, .bin false .eql (.r 3) (.c (.int .i64 0)), none⟩, ⟨some 4, .mov (.r 4), none⟩])
  .ret) (.seq (.region false [] [⟨none, .bin false .eql (.v 6) (.c (.int .i64 2)), none⟩, ⟨some 8, .mov (.r 0), none⟩])
  (.cond (.v 8) (.seq (.region false [] [⟨none, .faddr 1 (.v 3), none⟩, ⟨none, .load false 1 (.r 0), none⟩, ⟨none, .iaddr 1 (.r 1) (.c (.int .i64 1)), none⟩, ⟨none, .load false 1 (.r 2), none⟩, ⟨none, .bin false .gtr (.r 3) (.c (.int .i64 0)), none⟩, ⟨some 4, .mov (.r 4), none⟩])
  .ret) .skip))))))
  (.seq (.region false [] [⟨none, .faddr 0 (.v 3), none⟩, ⟨none, .load false 1 (.r 0), none⟩, ⟨none, .bin false .eql (.r 1) (.c (.int .i64 3)), none⟩, ⟨some 4, .mov (.r 2), none⟩])
  .ret)))),
  [.v 4]⟩
def ir_impl_isEnabled_1 : IFun := ⟨[0, 1, 3],
  (.seq (.region false [] [⟨some 2, .mov (.c (.bool false)), none⟩])
  (.seq (.region false [] [⟨none, .load false 1 (.v 1), none⟩, ⟨none, .mov (.v 0), none⟩, ⟨none, .iaddr 1 (.r 0) (.r 1), none⟩, ⟨none, .load false 1 (.r 2), none⟩, ⟨none, .bin false .eql (.r 3) (.c (.int .i64 0)), none⟩, ⟨some 2, .mov (.r 4), none⟩])
  .ret)),
  [.v 2]⟩
def ir_impl_isEnabled : IFun := ⟨[0, 1, 2, 3, 4],
  (.seq (.region false [] [⟨some 2, .box t_impl_Trans 3 (.v 0), none⟩, ⟨some 3, .box t_sl_int 1 (.v 1), none⟩, ⟨some 4, .mov (.c (.bool false)), none⟩])
  (.seq (.region false [] [⟨none, .faddr 0 (.v 2), none⟩, ⟨none, .load false 1 (.r 0), none⟩, ⟨none, .mkfn f_impl_isEnabled_1 [(.v 3)], none⟩, ⟨none, .call false f_slices_ContainsFunc_sl_int_int [(.r 1), (.r 2)], none⟩, ⟨none, .not (.r 3), none⟩, ⟨some 4, .mov (.r 4), none⟩])
  .ret)),
  [.v 4]⟩
def ir_impl_movesIn_1 : IFun := ⟨[0, 1, 2, 3, 4],
  (.seq (.region false [] [⟨some 3, .box t_impl_Move 3 (.v 0), none⟩, ⟨some 4, .mov (.c (.bool false)), none⟩])
  (.seq (.region true [(4, 3)] [⟨none, .load true 2 (.v 1), none⟩, ⟨none, .load true 3 (.v 3), none⟩, ⟨none, .faddr 1 (.v 2), none⟩, ⟨none, .load false 1 (.r 2), none⟩, ⟨none, .call false f_impl_transOf [(.r 0), (.r 1)], none⟩, ⟨none, .call false f_impl_isEnabled [(.r 4), (.r 3)], none⟩, ⟨none, .not (.r 5), none⟩, ⟨some 4, .mov (.r 6), none⟩])
  .ret)),
  [.v 4]⟩
def ir_slices_IndexFunc_sl_impl_Move_impl_Move : IFun := ⟨[0, 1, 4, 5, 7, 8, 9, 16],
  (.seq (.region false [] [⟨some 2, .mov (.c (.int .i64 0)), none⟩])
  (.seq (.seq (.region false [] [⟨none, .mov (.v 0), none⟩, ⟨some 4, .len false (.r 0), none⟩, ⟨some 5, .mov (.c (.int .i64 0)), none⟩])
  (.block 0 (.loop [true, true, false, false, true, true, false, false] (.seq (.region false [] [⟨some 6, .bin false .lss (.v 5) (.v 4), none⟩])
  (.seq (.cond (.v 6) .skip (.exit 0))
  (.seq (.block 1 (.seq (.region false [] [⟨none, .mov (.v 5), none⟩, ⟨some 3, .mov (.r 0), none⟩])
  (.seq (.region false [] [⟨none, .mov (.v 1), none⟩, ⟨none, .mov (.v 0), none⟩, ⟨none, .mov (.v 3), none⟩, ⟨none, .iaddr 3 (.r 1) (.r 2), none⟩, ⟨none, .load true 3 (.r 3), none⟩, ⟨some 7, .callv false (.r 0) [(.r 4)], none⟩])
  (.cond (.v 7) (.seq (.region false [] [⟨none, .mov (.v 3), none⟩, ⟨some 2, .mov (.r 0), none⟩])
  .ret) .skip))))
  (.region false [] [⟨none, .bin false .add (.v 5) (.c (.int .i64 1)), none⟩, ⟨some 5, .mov (.r 0), none⟩])))))))
  (.seq (.region false [] [⟨some 2, .mov (.c (.int .i64 (-1))), none⟩])
  .ret))),
  [.v 2]⟩
def ir_slices_DeleteFunc_sl_impl_Move_impl_Move : IFun := ⟨[0, 1, 4, 5, 6, 7, 12, 19, 29],
  (.seq (.region false [] [⟨some 2, .nilrow t_impl_Move true 3, none⟩])
  (.seq (.region false [] [⟨none, .mov (.v 0), none⟩, ⟨none, .mov (.v 1), none⟩, ⟨none, .call false f_slices_IndexFunc_sl_impl_Move_impl_Move [(.r 0), (.r 1)], none⟩, ⟨some 3, .mov (.r 2), none⟩])
  (.seq (.seq (.region false [] [⟨none, .mov (.v 3), none⟩, ⟨some 6, .bin false .eql (.r 0) (.c (.int .i64 (-1))), none⟩])
  (.cond (.v 6) (.seq (.region false [] [⟨none, .mov (.v 0), none⟩, ⟨some 2, .mov (.r 0), none⟩])
  .ret) .skip))
  (.seq (.seq (.region false [] [⟨none, .mov (.v 3), none⟩, ⟨none, .bin false .add (.r 0) (.c (.int .i64 1)), none⟩, ⟨some 4, .mov (.r 1), none⟩])
  (.block 0 (.loop [true, true, false, true, true, false, false, false, false] (.seq (.seq (.region false [] [⟨none, .mov (.v 4), none⟩, ⟨none, .mov (.v 0), none⟩, ⟨none, .len false (.r 1), none⟩, ⟨some 7, .bin false .lss (.r 0) (.r 2), none⟩])
  (.cond (.v 7) .skip (.exit 0)))
  (.seq (.block 1 (.seq (.region false [] [⟨none, .mov (.v 0), none⟩, ⟨none, .mov (.v 4), none⟩, ⟨none, .iaddr 3 (.r 0) (.r 1), none⟩, ⟨none, .load true 3 (.r 2), none⟩, ⟨some 5, .alloc t_impl_Move [(.int .i64 0), (.bool false), (.int .i64 0)], none⟩, ⟨none, .store 3 (.v 5) (.r 3), none⟩])
  (.seq (.region false [] [⟨none, .mov (.v 1), none⟩, ⟨none, .load true 3 (.v 5), none⟩, ⟨none, .callv false (.r 0) [(.r 1)], none⟩, ⟨some 8, .not (.r 2), none⟩])
  (.cond (.v 8) (.seq (.region false [] [⟨none, .mov (.v 0), none⟩, ⟨none, .mov (.v 3), none⟩, ⟨none, .load true 3 (.v 5), none⟩, ⟨none, .iaddr 3 (.r 0) (.r 1), none⟩, ⟨none, .store 3 (.r 3) (.r 2), none⟩])
  (.region false [] [⟨none, .mov (.v 3), none⟩, ⟨none, .bin false .add (.r 0) (.c (.int .i64 1)), none⟩, ⟨some 3, .mov (.r 1), none⟩])) .skip))))
  (.region false [] [⟨none, .mov (.v 4), none⟩, ⟨none, .bin false .add (.r 0) (.c (.int .i64 1)), none⟩, ⟨some 4, .mov (.r 1), none⟩]))))))
  (.seq (.region false [] [⟨none, .mov (.v 0), none⟩, ⟨none, .mov (.v 3), none⟩, ⟨none, .slice 3 (.r 0) (some (.r 1)) none, none⟩, ⟨none, .clr (.agg [(.int .i64 0), (.bool false), (.int .i64 0)]) (.r 2), none⟩])
  (.seq (.region false [] [⟨none, .mov (.v 0), none⟩, ⟨none, .mov (.v 3), none⟩, ⟨none, .slice 3 (.r 0) none (some (.r 1)), none⟩, ⟨some 2, .mov (.r 2), none⟩])
  .ret)))))),
  [.v 2]⟩
def ir_impl_movesIn : IFun := ⟨[0, 1, 2, 3, 4, 7],
  (.seq (.region false [] [⟨some 2, .box t_impl_Spec 2 (.v 0), none⟩, ⟨some 3, .box t_impl_Case 2 (.v 1), none⟩, ⟨some 4, .nilrow t_impl_Move true 3, none⟩])
  (.seq (.seq (.region false [] [⟨none, .faddr 0 (.v 3), none⟩, ⟨none, .load false 1 (.r 0), none⟩, ⟨some 5, .bin false .neq (.r 1) (.c (.int .i64 1)), none⟩])
  (.cond (.v 5) (.seq (.region false [] [⟨some 4, .nilrow t_impl_Move true 3, none⟩])
  .ret) .skip))
  (.seq (.region false [] [⟨none, .load true 2 (.v 2), none⟩, ⟨none, .call false f_impl_movesOf [(.r 0)], none⟩, ⟨none, .mkfn f_impl_movesIn_1 [(.v 2), (.v 3)], none⟩, ⟨none, .callm f_slices_DeleteFunc_sl_impl_Move_impl_Move [(.r 1), (.r 2)], none⟩, ⟨some 4, .mov (.r 3), none⟩])
  .ret))),
  [.v 4]⟩
def ir_slices_Index_sl_impl_Move_impl_Move : IFun := ⟨[0, 1, 3, 4, 5, 7, 8, 9, 16],
  (.seq (.region false [] [⟨some 2, .box t_impl_Move 3 (.v 1), none⟩, ⟨some 3, .mov (.c (.int .i64 0)), none⟩])
  (.seq (.seq (.region false [] [⟨none, .mov (.v 0), none⟩, ⟨some 5, .len false (.r 0), none⟩, ⟨some 6, .mov (.c (.int .i64 0)), none⟩])
  (.block 0 (.loop [true, false, true, false, false, true, true, false, false] (.seq (.region false [] [⟨some 7, .bin false .lss (.v 6) (.v 5), none⟩])
  (.seq (.cond (.v 7) .skip (.exit 0))
  (.seq (.block 1 (.seq (.region false [] [⟨none, .mov (.v 6), none⟩, ⟨some 4, .mov (.r 0), none⟩])
  (.seq (.region true [] [⟨none, .load true 3 (.v 2), none⟩, ⟨none, .mov (.v 0), none⟩, ⟨none, .mov (.v 4), none⟩, ⟨none, .iaddr 3 (.r 1) (.r 2), none⟩, ⟨none, .load true 3 (.r 3), none⟩, ⟨some 8, .eqs false [0, 1, 0] (.r 0) (.r 4), none⟩])
  (.cond (.v 8) (.seq (.region false [] [⟨none, .mov (.v 4), none⟩, ⟨some 3, .mov (.r 0), none⟩])
  .ret) .skip))))
  (.region false [] [⟨none, .bin false .add (.v 6) (.c (.int .i64 1)), none⟩, ⟨some 6, .mov (.r 0), none⟩])))))))
  (.seq (.region false [] [⟨some 3, .mov (.c (.int .i64 (-1))), none⟩])
  .ret))),
  [.v 3]⟩
def ir_slices_Contains_sl_impl_Move_impl_Move : IFun := ⟨[0, 1, 3, 4],
  (.seq (.region false [] [⟨some 2, .box t_impl_Move 3 (.v 1), none⟩, ⟨some 3, .mov (.c (.bool false)), none⟩])
  (.seq (.region false [] [⟨none, .mov (.v 0), none⟩, ⟨none, .load true 3 (.v 2), none⟩, ⟨none, .call false f_slices_Index_sl_impl_Move_impl_Move [(.r 0), (.r 1)], none⟩, ⟨none, .bin false .geq (.r 2) (.c (.int .i64 0)), none⟩, ⟨some 3, .mov (.r 3), none⟩])
  .ret)),
  [.v 3]⟩
def ir_impl_fired : IFun := ⟨[0, 1, 2, 4, 5, 7, 9, 11, 15, 16, 17, 18, 29, 30, 31, 32, 40, 41, 42, 43],
  (.seq (.region false [] [⟨some 2, .box t_impl_Trans 3 (.v 0), none⟩, ⟨some 3, .nilrow t_int true 1, none⟩])
  (.seq (.region false [] [⟨none, .mov (.v 1), none⟩, ⟨none, .call false f_slices_Clone_sl_int_int [(.r 0)], none⟩, ⟨some 4, .mov (.r 1), none⟩])
  (.seq (.seq (.region false [] [⟨none, .faddr 0 (.v 2), none⟩, ⟨some 8, .load false 1 (.r 0), none⟩, ⟨some 9, .len false (.v 8), none⟩, ⟨some 10, .mov (.c (.int .i64 0)), none⟩])
  (.block 0 (.loop [false, false, true, false, true, false, false, false, true, true, true, false, false, false, false, false, false, false, false, false] (.seq (.region false [] [⟨some 11, .bin false .lss (.v 10) (.v 9), none⟩])
  (.seq (.cond (.v 11) .skip (.exit 0))
  (.seq (.block 1 (.seq (.region false [] [⟨none, .iaddr 1 (.v 8) (.v 10), none⟩, ⟨none, .load false 1 (.r 0), none⟩, ⟨some 5, .mov (.r 1), none⟩])
  (.region false [] [⟨none, .mov (.v 4), none⟩, ⟨none, .mov (.v 5), none⟩, ⟨none, .iaddr 1 (.r 0) (.r 1), none⟩, ⟨none, .load false 1 (.r 2), none⟩, ⟨none, .bin false .sub (.r 3) (.c (.int .i64 1)), none⟩, ⟨none, .iaddr 1 (.r 0) (.r 1), none⟩, ⟨none, .store 1 (.r 5) (.r 4), none⟩])))
  (.region false [] [⟨none, .bin false .add (.v 10) (.c (.int .i64 1)), none⟩, ⟨some 10, .mov (.r 0), none⟩])))))))
  (.seq (.seq (.region false [] [⟨none, .faddr 2 (.v 2), none⟩, ⟨some 12, .load false 1 (.r 0), none⟩, ⟨some 13, .len false (.v 12), none⟩, ⟨some 14, .mov (.c (.int .i64 0)), none⟩])
  (.block 2 (.loop [false, false, true, false, true, false, false, false, false, false, false, false, true, true, true, false, false, false, false, false] (.seq (.region false [] [⟨some 15, .bin false .lss (.v 14) (.v 13), none⟩])
  (.seq (.cond (.v 15) .skip (.exit 2))
  (.seq (.block 3 (.seq (.region false [] [⟨none, .iaddr 1 (.v 12) (.v 14), none⟩, ⟨none, .load false 1 (.r 0), none⟩, ⟨some 6, .mov (.r 1), none⟩])
  (.region false [] [⟨none, .mov (.v 4), none⟩, ⟨none, .mov (.v 6), none⟩, ⟨none, .iaddr 1 (.r 0) (.r 1), none⟩, ⟨none, .store 1 (.r 2) (.c (.int .i64 0)), none⟩])))
  (.region false [] [⟨none, .bin false .add (.v 14) (.c (.int .i64 1)), none⟩, ⟨some 14, .mov (.r 0), none⟩])))))))
  (.seq (.seq (.region false [] [⟨none, .faddr 1 (.v 2), none⟩, ⟨some 16, .load false 1 (.r 0), none⟩, ⟨some 17, .len false (.v 16), none⟩, ⟨some 18, .mov (.c (.int .i64 0)), none⟩])
  (.block 4 (.loop [false, false, false, false, true, false, false, false, false, false, false, false, false, false, false, false, true, true, true, false] (.seq (.region false [] [⟨some 19, .bin false .lss (.v 18) (.v 17), none⟩])
  (.seq (.cond (.v 19) .skip (.exit 4))
  (.seq (.block 5 (.seq (.region false [] [⟨none, .iaddr 1 (.v 16) (.v 18), none⟩, ⟨none, .load false 1 (.r 0), none⟩, ⟨some 7, .mov (.r 1), none⟩])
  (.region false [] [⟨none, .mov (.v 4), none⟩, ⟨none, .mov (.v 7), none⟩, ⟨none, .iaddr 1 (.r 0) (.r 1), none⟩, ⟨none, .load false 1 (.r 2), none⟩, ⟨none, .bin false .add (.r 3) (.c (.int .i64 1)), none⟩, ⟨none, .iaddr 1 (.r 0) (.r 1), none⟩, ⟨none, .store 1 (.r 5) (.r 4), none⟩])))
  (.region false [] [⟨none, .bin false .add (.v 18) (.c (.int .i64 1)), none⟩, ⟨some 18, .mov (.r 0), none⟩])))))))
  (.seq (.region false [] [⟨none, .mov (.v 4), none⟩, ⟨some 3, .mov (.r 0), none⟩])
  .ret)))))),
  [.v 3]⟩
def ir_impl_checkedMark : IFun := ⟨[0, 2, 3, 6],
  (.seq (.region false [] [⟨some 1, .nilrow t_int true 1, none⟩, ⟨some 2, .mov (.c (.bool false)), none⟩])
  (.seq (.seq (.region false [] [⟨none, .mov (.v 0), none⟩, ⟨none, .call false f_impl_allWithin [(.r 0), (.c (.int .i64 0)), (.c (.int .i64 50))], none⟩, ⟨some 3, .not (.r 1), none⟩])
  (.cond (.v 3) (.seq (.region false [] [⟨some 1, .nilrow t_int true 1, none⟩, ⟨some 2, .mov (.c (.bool false)), none⟩])
  .ret) .skip))
  (.seq (.region false [] [⟨none, .mov (.v 0), none⟩, ⟨some 1, .mov (.r 0), none⟩, ⟨some 2, .mov (.c (.bool true)), none⟩])
  .ret))),
  [.v 1, .v 2]⟩
def ir_impl_stepCase : IFun := ⟨[0, 1, 2, 3, 4, 5, 6, 7, 8, 9, 15, 28, 33],
  (.seq (.region false [] [⟨some 3, .box t_impl_Spec 2 (.v 0), none⟩, ⟨some 4, .box t_impl_Case 2 (.v 1), none⟩, ⟨some 5, .box t_impl_Move 3 (.v 2), none⟩, ⟨some 6, .alloc t_impl_Case [(.int .i64 0), (.nil true 1)], none⟩, ⟨some 7, .mov (.c (.bool false)), none⟩])
  (.seq (.seq (.region true [(3, 2)] [⟨none, .load true 2 (.v 3), none⟩, ⟨none, .load true 2 (.v 4), none⟩, ⟨none, .load true 3 (.v 5), none⟩, ⟨none, .call false f_impl_movesIn [(.r 0), (.r 1)], none⟩, ⟨none, .call false f_slices_Contains_sl_impl_Move_impl_Move [(.r 3), (.r 2)], none⟩, ⟨some 10, .not (.r 4), none⟩])
  (.cond (.v 10) (.seq (.region false [] [⟨none, .build [(.int .i64 0), (.nil true 1)] [], none⟩, ⟨none, .store 2 (.v 6) (.r 0), none⟩, ⟨some 7, .mov (.c (.bool false)), none⟩])
  .ret) .skip))
  (.seq (.region true [(4, 3)] [⟨none, .load true 2 (.v 3), none⟩, ⟨none, .load true 3 (.v 5), none⟩, ⟨none, .faddr 1 (.v 4), none⟩, ⟨none, .load false 1 (.r 2), none⟩, ⟨none, .call false f_impl_transOf [(.r 0), (.r 1)], none⟩, ⟨none, .call false f_impl_fired [(.r 4), (.r 3)], none⟩, ⟨none, .callm f_impl_checkedMark [(.r 5)], none⟩, ⟨none, .mov (.r 6), none⟩, ⟨none, .extract (.r 7) 0, none⟩, ⟨none, .extract (.r 7) 1, none⟩, ⟨some 8, .mov (.r 8), none⟩, ⟨some 9, .mov (.r 9), none⟩])
  (.seq (.seq (.region false [] [⟨none, .mov (.v 9), none⟩, ⟨some 11, .not (.r 0), none⟩])
  (.cond (.v 11) (.seq (.region false [] [⟨none, .build [(.int .i64 0), (.nil true 1)] [], none⟩, ⟨none, .store 2 (.v 6) (.r 0), none⟩, ⟨some 7, .mov (.c (.bool false)), none⟩])
  .ret) .skip))
  (.seq (.seq (.region false [] [⟨none, .mov (.v 8), none⟩, ⟨none, .iaddr 1 (.r 0) (.c (.int .i64 1)), none⟩, ⟨none, .load false 1 (.r 1), none⟩, ⟨some 12, .bin false .gtr (.r 2) (.c (.int .i64 0)), none⟩])
  (.cond (.v 12) (.seq (.region false [] [⟨none, .mov (.v 8), none⟩, ⟨none, .build [(.int .i64 0), (.nil true 1)] [(0, 1, (.c (.int .i64 2))), (1, 1, (.r 0))], none⟩, ⟨none, .store 2 (.v 6) (.r 1), none⟩, ⟨some 7, .mov (.c (.bool true)), none⟩])
  .ret) .skip))
  (.seq (.region false [] [⟨none, .mov (.v 8), none⟩, ⟨none, .build [(.int .i64 0), (.nil true 1)] [(0, 1, (.c (.int .i64 1))), (1, 1, (.r 0))], none⟩, ⟨none, .store 2 (.v 6) (.r 1), none⟩, ⟨some 7, .mov (.c (.bool true)), none⟩])
  .ret)))))),
  [.cell true 2 6, .v 7]⟩
def ir_impl_StepCase : IFun := ⟨[0, 1, 2, 3, 4, 5, 6, 7, 16],
  (.seq (.region false [] [⟨some 3, .box t_impl_Spec 2 (.v 0), none⟩, ⟨some 4, .box t_impl_Case 2 (.v 1), none⟩, ⟨some 5, .box t_impl_Move 3 (.v 2), none⟩, ⟨some 6, .alloc t_impl_Case [(.int .i64 0), (.nil true 1)], none⟩, ⟨some 7, .mov (.c (.bool false)), none⟩])
  (.seq (.seq (.region false [] [⟨none, .load true 2 (.v 3), none⟩, ⟨none, .call false f_impl_isSpec [(.r 0)], none⟩, ⟨none, .not (.r 1), none⟩, ⟨none, .mov (.r 2), none⟩, ⟨none, .load true 2 (.v 3), some (3, false)⟩, ⟨none, .load true 2 (.v 4), some (3, false)⟩, ⟨none, .call false f_impl_isCase [(.r 4), (.r 5)], some (3, false)⟩, ⟨none, .not (.r 6), some (3, false)⟩, ⟨some 8, .pick (.r 3) (.c (.bool true)) (.r 7), none⟩])
  (.cond (.v 8) (.seq (.region false [] [⟨none, .build [(.int .i64 0), (.nil true 1)] [], none⟩, ⟨none, .store 2 (.v 6) (.r 0), none⟩, ⟨some 7, .mov (.c (.bool false)), none⟩])
  .ret) .skip))
  (.seq (.region false [] [⟨none, .load true 2 (.v 3), none⟩, ⟨none, .load true 2 (.v 4), none⟩, ⟨none, .load true 3 (.v 5), none⟩, ⟨none, .call false f_impl_stepCase [(.r 0), (.r 1), (.r 2)], none⟩, ⟨none, .extract (.r 3) 0, none⟩, ⟨none, .extract (.r 3) 1, none⟩, ⟨none, .store 2 (.v 6) (.r 4), none⟩, ⟨some 7, .mov (.r 5), none⟩])
  .ret))),
  [.cell true 2 6, .v 7]⟩
def ir_spec_StepCase : IFun := ⟨[0, 1, 2, 3, 4, 5, 6, 7, 11],
  (.seq (.region false [] [⟨some 3, .box t_impl_Spec 2 (.v 0), none⟩, ⟨some 4, .box t_impl_Case 2 (.v 1), none⟩, ⟨some 5, .box t_impl_Move 3 (.v 2), none⟩, ⟨some 6, .alloc t_impl_Case [(.int .i64 0), (.nil true 1)], none⟩, ⟨some 7, .mov (.c (.bool false)), none⟩])
  (.seq (.seq (.region false [] [⟨none, .load true 2 (.v 3), none⟩, ⟨none, .load true 2 (.v 4), none⟩, ⟨none, .call false f_spec_GoodCase [(.r 0), (.r 1)], none⟩, ⟨some 8, .not (.r 2), none⟩])
  (.cond (.v 8) (.seq (.region false [] [⟨none, .build [(.int .i64 0), (.nil true 1)] [], none⟩, ⟨none, .store 2 (.v 6) (.r 0), none⟩, ⟨some 7, .mov (.c (.bool false)), none⟩])
  .ret) .skip))
  (.seq (.region false [] [⟨none, .load true 2 (.v 3), none⟩, ⟨none, .load true 2 (.v 4), none⟩, ⟨none, .load true 3 (.v 5), none⟩, ⟨none, .call false f_spec_l14Step [(.r 0), (.r 1), (.r 2)], none⟩, ⟨none, .extract (.r 3) 0, none⟩, ⟨none, .extract (.r 3) 1, none⟩, ⟨none, .store 2 (.v 6) (.r 4), none⟩, ⟨some 7, .mov (.r 5), none⟩])
  .ret))),
  [.cell true 2 6, .v 7]⟩
def ir_impl_MovesIn : IFun := ⟨[0, 1, 2, 3, 4, 5, 14],
  (.seq (.region false [] [⟨some 2, .box t_impl_Spec 2 (.v 0), none⟩, ⟨some 3, .box t_impl_Case 2 (.v 1), none⟩, ⟨some 4, .nilrow t_impl_Move true 3, none⟩, ⟨some 5, .mov (.c (.bool false)), none⟩])
  (.seq (.seq (.region false [] [⟨none, .load true 2 (.v 2), none⟩, ⟨none, .call false f_impl_isSpec [(.r 0)], none⟩, ⟨none, .not (.r 1), none⟩, ⟨none, .mov (.r 2), none⟩, ⟨none, .load true 2 (.v 2), some (3, false)⟩, ⟨none, .load true 2 (.v 3), some (3, false)⟩, ⟨none, .call false f_impl_isCase [(.r 4), (.r 5)], some (3, false)⟩, ⟨none, .not (.r 6), some (3, false)⟩, ⟨some 6, .pick (.r 3) (.c (.bool true)) (.r 7), none⟩])
  (.cond (.v 6) (.seq (.region false [] [⟨some 4, .nilrow t_impl_Move true 3, none⟩, ⟨some 5, .mov (.c (.bool false)), none⟩])
  .ret) .skip))
  (.seq (.region false [] [⟨none, .load true 2 (.v 2), none⟩, ⟨none, .load true 2 (.v 3), none⟩, ⟨none, .call false f_impl_movesIn [(.r 0), (.r 1)], none⟩, ⟨some 4, .mov (.r 2), none⟩, ⟨some 5, .mov (.c (.bool true)), none⟩])
  .ret))),
  [.v 4, .v 5]⟩
def ir_laws_sameInts : IFun := ⟨[0, 1, 4, 5, 10, 12, 13, 14, 24],
  (.seq (.region false [] [⟨some 2, .mov (.c (.bool false)), none⟩])
  (.seq (.seq (.region false [] [⟨none, .mov (.v 0), none⟩, ⟨none, .len false (.r 0), none⟩, ⟨none, .mov (.v 1), none⟩, ⟨none, .len false (.r 2), none⟩, ⟨some 4, .bin false .neq (.r 1) (.r 3), none⟩])
  (.cond (.v 4) (.seq (.region false [] [⟨some 2, .mov (.c (.bool false)), none⟩])
  .ret) .skip))
  (.seq (.seq (.region false [] [⟨none, .mov (.v 0), none⟩, ⟨some 5, .len false (.r 0), none⟩, ⟨some 6, .mov (.c (.int .i64 0)), none⟩])
  (.block 0 (.loop [true, true, false, false, false, true, true, false, false] (.seq (.region false [] [⟨some 7, .bin false .lss (.v 6) (.v 5), none⟩])
  (.seq (.cond (.v 7) .skip (.exit 0))
  (.seq (.block 1 (.seq (.region false [] [⟨none, .mov (.v 6), none⟩, ⟨some 3, .mov (.r 0), none⟩])
  (.seq (.region true [] [⟨none, .mov (.v 0), none⟩, ⟨none, .mov (.v 3), none⟩, ⟨none, .iaddr 1 (.r 0) (.r 1), none⟩, ⟨none, .load false 1 (.r 2), none⟩, ⟨none, .mov (.v 1), none⟩, ⟨none, .mov (.v 3), none⟩, ⟨none, .iaddr 1 (.r 4) (.r 5), none⟩, ⟨none, .load false 1 (.r 6), none⟩, ⟨some 8, .bin false .neq (.r 3) (.r 7), none⟩])
  (.cond (.v 8) (.seq (.region false [] [⟨some 2, .mov (.c (.bool false)), none⟩])
  .ret) .skip))))
  (.region false [] [⟨none, .bin false .add (.v 6) (.c (.int .i64 1)), none⟩, ⟨some 6, .mov (.r 0), none⟩])))))))
  (.seq (.region false [] [⟨some 2, .mov (.c (.bool true)), none⟩])
  .ret)))),
  [.v 2]⟩
def ir_laws_sameCase : IFun := ⟨[0, 1, 2, 3, 4],
  (.seq (.region false [] [⟨some 2, .box t_impl_Case 2 (.v 0), none⟩, ⟨some 3, .box t_impl_Case 2 (.v 1), none⟩, ⟨some 4, .mov (.c (.bool false)), none⟩])
  (.seq (.region false [] [⟨none, .faddr 0 (.v 2), none⟩, ⟨none, .load false 1 (.r 0), none⟩, ⟨none, .faddr 0 (.v 3), none⟩, ⟨none, .load false 1 (.r 2), none⟩, ⟨none, .bin false .eql (.r 1) (.r 3), none⟩, ⟨none, .mov (.r 4), none⟩, ⟨none, .faddr 1 (.v 2), some (5, true)⟩, ⟨none, .load false 1 (.r 6), some (5, true)⟩, ⟨none, .faddr 1 (.v 3), some (5, true)⟩, ⟨none, .load false 1 (.r 8), some (5, true)⟩, ⟨none, .call false f_laws_sameInts [(.r 7), (.r 9)], some (5, true)⟩, ⟨none, .pick (.r 5) (.r 10) (.c (.bool false)), none⟩, ⟨some 4, .mov (.r 11), none⟩])
  .ret)),
  [.v 4]⟩
def ir_laws_sameMoves : IFun := ⟨[0, 1, 4, 5, 10, 12, 13, 14, 24],
  (.seq (.region false [] [⟨some 2, .mov (.c (.bool false)), none⟩])
  (.seq (.seq (.region false [] [⟨none, .mov (.v 0), none⟩, ⟨none, .len false (.r 0), none⟩, ⟨none, .mov (.v 1), none⟩, ⟨none, .len false (.r 2), none⟩, ⟨some 4, .bin false .neq (.r 1) (.r 3), none⟩])
  (.cond (.v 4) (.seq (.region false [] [⟨some 2, .mov (.c (.bool false)), none⟩])
  .ret) .skip))
  (.seq (.seq (.region false [] [⟨none, .mov (.v 0), none⟩, ⟨some 5, .len false (.r 0), none⟩, ⟨some 6, .mov (.c (.int .i64 0)), none⟩])
  (.block 0 (.loop [true, true, false, false, false, true, true, false, false] (.seq (.region false [] [⟨some 7, .bin false .lss (.v 6) (.v 5), none⟩])
  (.seq (.cond (.v 7) .skip (.exit 0))
  (.seq (.block 1 (.seq (.region false [] [⟨none, .mov (.v 6), none⟩, ⟨some 3, .mov (.r 0), none⟩])
  (.seq (.region true [] [⟨none, .mov (.v 0), none⟩, ⟨none, .mov (.v 3), none⟩, ⟨none, .iaddr 3 (.r 0) (.r 1), none⟩, ⟨none, .load true 3 (.r 2), none⟩, ⟨none, .mov (.v 1), none⟩, ⟨none, .mov (.v 3), none⟩, ⟨none, .iaddr 3 (.r 4) (.r 5), none⟩, ⟨none, .load true 3 (.r 6), none⟩, ⟨some 8, .eqs true [0, 1, 0] (.r 3) (.r 7), none⟩])
  (.cond (.v 8) (.seq (.region false [] [⟨some 2, .mov (.c (.bool false)), none⟩])
  .ret) .skip))))
  (.region false [] [⟨none, .bin false .add (.v 6) (.c (.int .i64 1)), none⟩, ⟨some 6, .mov (.r 0), none⟩])))))))
  (.seq (.region false [] [⟨some 2, .mov (.c (.bool true)), none⟩])
  .ret)))),
  [.v 2]⟩
def ir_impl_GoodCase : IFun := ⟨[0, 1, 2, 3, 4],
  (.seq (.region false [] [⟨some 2, .box t_impl_Spec 2 (.v 0), none⟩, ⟨some 3, .box t_impl_Case 2 (.v 1), none⟩, ⟨some 4, .mov (.c (.bool false)), none⟩])
  (.seq (.region false [] [⟨none, .load true 2 (.v 2), none⟩, ⟨none, .call false f_impl_isSpec [(.r 0)], none⟩, ⟨none, .mov (.r 1), none⟩, ⟨none, .load true 2 (.v 2), some (2, true)⟩, ⟨none, .load true 2 (.v 3), some (2, true)⟩, ⟨none, .call false f_impl_isCase [(.r 3), (.r 4)], some (2, true)⟩, ⟨none, .pick (.r 2) (.r 5) (.c (.bool false)), none⟩, ⟨some 4, .mov (.r 6), none⟩])
  .ret)),
  [.v 4]⟩
def ir_impl_SpecFlow : IFun := ⟨[0, 1, 2, 3, 6],
  (.seq (.region false [] [⟨some 1, .box t_impl_Spec 2 (.v 0), none⟩, ⟨some 2, .alloc t_impl_Flow [(.int .i64 0), (.nil false 3), (.int .i64 0), (.int .i64 0)], none⟩, ⟨some 3, .mov (.c (.bool false)), none⟩])
  (.seq (.seq (.region false [] [⟨none, .load true 2 (.v 1), none⟩, ⟨none, .call false f_impl_isSpec [(.r 0)], none⟩, ⟨some 4, .not (.r 1), none⟩])
  (.cond (.v 4) (.seq (.region false [] [⟨none, .build [(.int .i64 0), (.nil false 3), (.int .i64 0), (.int .i64 0)] [], none⟩, ⟨none, .store 4 (.v 2) (.r 0), none⟩, ⟨some 3, .mov (.c (.bool false)), none⟩])
  .ret) .skip))
  (.seq (.region false [] [⟨none, .load true 2 (.v 1), none⟩, ⟨none, .call false f_impl_specFlow [(.r 0)], none⟩, ⟨none, .store 4 (.v 2) (.r 1), none⟩, ⟨some 3, .mov (.c (.bool true)), none⟩])
  .ret))),
  [.cell true 4 2, .v 3]⟩
def ir_impl_MoveNo : IFun := ⟨[0, 1, 2, 3, 4, 5, 6, 9, 15],
  (.seq (.region false [] [⟨some 2, .box t_impl_Spec 2 (.v 0), none⟩, ⟨some 3, .box t_impl_Move 3 (.v 1), none⟩, ⟨some 4, .mov (.c (.int .i64 0)), none⟩, ⟨some 5, .mov (.c (.bool false)), none⟩])
  (.seq (.seq (.region false [] [⟨none, .load true 2 (.v 2), none⟩, ⟨none, .call false f_impl_isSpec [(.r 0)], none⟩, ⟨some 7, .not (.r 1), none⟩])
  (.cond (.v 7) (.seq (.region false [] [⟨some 4, .mov (.c (.int .i64 0)), none⟩, ⟨some 5, .mov (.c (.bool false)), none⟩])
  .ret) .skip))
  (.seq (.region true [(2, 1)] [⟨none, .load true 2 (.v 2), none⟩, ⟨none, .load true 3 (.v 3), none⟩, ⟨none, .call false f_impl_movesOf [(.r 0)], none⟩, ⟨none, .call false f_slices_Index_sl_impl_Move_impl_Move [(.r 2), (.r 1)], none⟩, ⟨some 6, .mov (.r 3), none⟩])
  (.seq (.seq (.region false [] [⟨none, .mov (.v 6), none⟩, ⟨some 8, .bin false .lss (.r 0) (.c (.int .i64 0)), none⟩])
  (.cond (.v 8) (.seq (.region false [] [⟨some 4, .mov (.c (.int .i64 0)), none⟩, ⟨some 5, .mov (.c (.bool false)), none⟩])
  .ret) .skip))
  (.seq (.region false [] [⟨none, .mov (.v 6), none⟩, ⟨some 4, .mov (.r 0), none⟩, ⟨some 5, .mov (.c (.bool true)), none⟩])
  .ret))))),
  [.v 4, .v 5]⟩
def ir_impl_isMarked : IFun := ⟨[0, 1, 2, 4],
  (.seq (.region false [] [⟨some 2, .box t_impl_Net 2 (.v 0), none⟩, ⟨some 3, .mov (.c (.bool false)), none⟩])
  (.seq (.region false [] [⟨none, .load true 2 (.v 2), none⟩, ⟨none, .call false f_impl_GoodNet [(.r 0)], none⟩, ⟨none, .mov (.r 1), none⟩, ⟨none, .faddr 0 (.v 2), some (2, true)⟩, ⟨none, .load false 1 (.r 3), some (2, true)⟩, ⟨none, .mov (.v 1), some (2, true)⟩, ⟨none, .call false f_impl_GoodMark [(.r 4), (.r 5)], some (2, true)⟩, ⟨none, .pick (.r 2) (.r 6) (.c (.bool false)), none⟩, ⟨some 3, .mov (.r 7), none⟩])
  .ret)),
  [.v 3]⟩
def ir_impl_isTrans : IFun := ⟨[0, 1, 2, 4],
  (.seq (.region false [] [⟨some 2, .box t_impl_Net 2 (.v 0), none⟩, ⟨some 3, .mov (.c (.bool false)), none⟩])
  (.seq (.region false [] [⟨none, .mov (.v 1), none⟩, ⟨none, .faddr 1 (.v 2), none⟩, ⟨none, .load false 1 (.r 1), none⟩, ⟨none, .len false (.r 2), none⟩, ⟨none, .bin false .sub (.r 3) (.c (.int .i64 1)), none⟩, ⟨none, .call false f_impl_within [(.r 0), (.c (.int .i64 0)), (.r 4)], none⟩, ⟨some 3, .mov (.r 5), none⟩])
  .ret)),
  [.v 3]⟩
def ir_impl_Fire : IFun := ⟨[0, 1, 2, 3, 6, 7, 27],
  (.seq (.region false [] [⟨some 3, .box t_impl_Net 2 (.v 0), none⟩, ⟨some 4, .nilrow t_int true 1, none⟩, ⟨some 5, .mov (.c (.bool false)), none⟩])
  (.seq (.seq (.region false [] [⟨none, .load true 2 (.v 3), none⟩, ⟨none, .mov (.v 1), none⟩, ⟨none, .call false f_impl_isMarked [(.r 0), (.r 1)], none⟩, ⟨none, .not (.r 2), none⟩, ⟨none, .mov (.r 3), none⟩, ⟨none, .load true 2 (.v 3), some (4, false)⟩, ⟨none, .mov (.v 2), some (4, false)⟩, ⟨none, .call false f_impl_isTrans [(.r 5), (.r 6)], some (4, false)⟩, ⟨none, .not (.r 7), some (4, false)⟩, ⟨none, .pick (.r 4) (.c (.bool true)) (.r 8), none⟩, ⟨none, .mov (.r 9), none⟩, ⟨none, .faddr 1 (.v 3), some (10, false)⟩, ⟨none, .load false 1 (.r 11), some (10, false)⟩, ⟨none, .mov (.v 2), some (10, false)⟩, ⟨none, .iaddr 3 (.r 12) (.r 13), some (10, false)⟩, ⟨none, .load true 3 (.r 14), some (10, false)⟩, ⟨none, .mov (.v 1), some (10, false)⟩, ⟨none, .call false f_impl_isEnabled [(.r 15), (.r 16)], some (10, false)⟩, ⟨none, .not (.r 17), some (10, false)⟩, ⟨some 6, .pick (.r 10) (.c (.bool true)) (.r 18), none⟩])
  (.cond (.v 6) (.seq (.region false [] [⟨some 4, .nilrow t_int true 1, none⟩, ⟨some 5, .mov (.c (.bool false)), none⟩])
  .ret) .skip))
  (.seq (.region false [] [⟨none, .faddr 1 (.v 3), none⟩, ⟨none, .load false 1 (.r 0), none⟩, ⟨none, .mov (.v 2), none⟩, ⟨none, .iaddr 3 (.r 1) (.r 2), none⟩, ⟨none, .load true 3 (.r 3), none⟩, ⟨none, .mov (.v 1), none⟩, ⟨none, .call false f_impl_fired [(.r 4), (.r 5)], none⟩, ⟨none, .callm f_impl_checkedMark [(.r 6)], none⟩, ⟨none, .extract (.r 7) 0, none⟩, ⟨none, .extract (.r 7) 1, none⟩, ⟨some 4, .mov (.r 8), none⟩, ⟨some 5, .mov (.r 9), none⟩])
  .ret))),
  [.v 4, .v 5]⟩
def ir_spec_DrawGoodCase : IFun := ⟨[0, 2, 3, 4, 5],
  (.seq (.region false [] [⟨some 1, .alloc t_impl_Spec [(.int .i64 0), (.nil false 7)], none⟩, ⟨some 2, .alloc t_impl_Case [(.int .i64 0), (.nil true 1)], none⟩])
  (.seq (.region false [] [⟨none, .mov (.v 0), none⟩, ⟨none, .build [(.nil true 1), (.int .i64 0), (.int .u64 0)] [(0, 1, (.r 0))], none⟩, ⟨none, .box t_spec_l1Cur 3 (.r 1), none⟩, ⟨some 3, .mov (.r 2), none⟩])
  (.seq (.region false [] [⟨none, .mov (.v 3), none⟩, ⟨none, .callm f_spec_l1Cur_spec [(.r 0)], none⟩, ⟨some 4, .alloc t_impl_Spec [(.int .i64 0), (.nil false 7)], none⟩, ⟨none, .store 2 (.v 4) (.r 1), none⟩])
  (.seq (.region true [(3, 0)] [⟨none, .load true 2 (.v 4), none⟩, ⟨none, .mov (.v 3), none⟩, ⟨none, .load true 2 (.v 4), none⟩, ⟨none, .callm f_spec_l1Cur_caseOf [(.r 1), (.r 2)], none⟩, ⟨none, .store 2 (.v 1) (.r 0), none⟩, ⟨none, .store 2 (.v 2) (.r 3), none⟩])
  .ret)))),
  [.cell true 2 1, .cell true 2 2]⟩
def ir_spec_DrawCancelCase : IFun := ⟨[0, 2, 3],
  (.seq (.region false [] [⟨some 1, .alloc t_impl_Spec [(.int .i64 0), (.nil false 7)], none⟩, ⟨some 2, .alloc t_impl_Case [(.int .i64 0), (.nil true 1)], none⟩])
  (.seq (.region false [] [⟨none, .mov (.v 0), none⟩, ⟨none, .call false f_spec_DrawGoodCase [(.r 0)], none⟩, ⟨none, .extract (.r 1) 0, none⟩, ⟨none, .extract (.r 1) 1, none⟩, ⟨none, .store 2 (.v 1) (.r 2), none⟩, ⟨none, .store 2 (.v 2) (.r 3), none⟩])
  .ret)),
  [.cell true 2 1, .cell true 2 2]⟩
def ir_impl_CancelCase : IFun := ⟨[0, 1, 2, 3, 4, 5, 19],
  (.seq (.region false [] [⟨some 2, .box t_impl_Spec 2 (.v 0), none⟩, ⟨some 3, .box t_impl_Case 2 (.v 1), none⟩, ⟨some 4, .alloc t_impl_Case [(.int .i64 0), (.nil true 1)], none⟩, ⟨some 5, .mov (.c (.bool false)), none⟩])
  (.seq (.seq (.region false [] [⟨none, .load true 2 (.v 2), none⟩, ⟨none, .call false f_impl_isSpec [(.r 0)], none⟩, ⟨none, .not (.r 1), none⟩, ⟨none, .mov (.r 2), none⟩, ⟨none, .load true 2 (.v 2), some (3, false)⟩, ⟨none, .load true 2 (.v 3), some (3, false)⟩, ⟨none, .call false f_impl_isCase [(.r 4), (.r 5)], some (3, false)⟩, ⟨none, .not (.r 6), some (3, false)⟩, ⟨none, .pick (.r 3) (.c (.bool true)) (.r 7), none⟩, ⟨none, .mov (.r 8), none⟩, ⟨none, .faddr 0 (.v 3), some (9, false)⟩, ⟨none, .load false 1 (.r 10), some (9, false)⟩, ⟨none, .bin false .neq (.r 11) (.c (.int .i64 1)), some (9, false)⟩, ⟨some 6, .pick (.r 9) (.c (.bool true)) (.r 12), none⟩])
  (.cond (.v 6) (.seq (.region false [] [⟨none, .build [(.int .i64 0), (.nil true 1)] [], none⟩, ⟨none, .store 2 (.v 4) (.r 0), none⟩, ⟨some 5, .mov (.c (.bool false)), none⟩])
  .ret) .skip))
  (.seq (.region false [] [⟨none, .faddr 1 (.v 3), none⟩, ⟨none, .load false 1 (.r 0), none⟩, ⟨none, .len false (.r 1), none⟩, ⟨none, .mk t_int true 1 (.int .i64 0) (.r 2), none⟩, ⟨none, .build [(.int .i64 0), (.nil true 1)] [(0, 1, (.c (.int .i64 3))), (1, 1, (.r 3))], none⟩, ⟨none, .store 2 (.v 4) (.r 4), none⟩, ⟨some 5, .mov (.c (.bool true)), none⟩])
  .ret))),
  [.cell true 2 4, .v 5]⟩
def ir_spec_l14Cut : IFun := ⟨[0, 1, 2],
  (.seq (.region false [] [⟨some 1, .box t_impl_Spec 2 (.v 0), none⟩, ⟨some 2, .alloc t_impl_Case [(.int .i64 0), (.nil true 1)], none⟩])
  (.seq (.region false [] [⟨none, .faddr 0 (.v 1), none⟩, ⟨none, .load false 1 (.r 0), none⟩, ⟨none, .faddr 1 (.v 1), none⟩, ⟨none, .load false 1 (.r 2), none⟩, ⟨none, .len false (.r 3), none⟩, ⟨none, .bin false .add (.r 1) (.r 4), none⟩, ⟨none, .mk t_int true 1 (.int .i64 0) (.r 5), none⟩, ⟨none, .build [(.int .i64 0), (.nil true 1)] [(0, 1, (.c (.int .i64 3))), (1, 1, (.r 6))], none⟩, ⟨none, .store 2 (.v 2) (.r 7), none⟩])
  .ret)),
  [.cell true 2 2]⟩
def ir_spec_CancelCase : IFun := ⟨[0, 1, 2, 3, 4, 5, 14],
  (.seq (.region false [] [⟨some 2, .box t_impl_Spec 2 (.v 0), none⟩, ⟨some 3, .box t_impl_Case 2 (.v 1), none⟩, ⟨some 4, .alloc t_impl_Case [(.int .i64 0), (.nil true 1)], none⟩, ⟨some 5, .mov (.c (.bool false)), none⟩])
  (.seq (.seq (.region false [] [⟨none, .load true 2 (.v 2), none⟩, ⟨none, .load true 2 (.v 3), none⟩, ⟨none, .call false f_spec_GoodCase [(.r 0), (.r 1)], none⟩, ⟨none, .not (.r 2), none⟩, ⟨none, .mov (.r 3), none⟩, ⟨none, .faddr 0 (.v 3), some (4, false)⟩, ⟨none, .load false 1 (.r 5), some (4, false)⟩, ⟨none, .bin false .neq (.r 6) (.c (.int .i64 1)), some (4, false)⟩, ⟨some 6, .pick (.r 4) (.c (.bool true)) (.r 7), none⟩])
  (.cond (.v 6) (.seq (.region false [] [⟨none, .build [(.int .i64 0), (.nil true 1)] [], none⟩, ⟨none, .store 2 (.v 4) (.r 0), none⟩, ⟨some 5, .mov (.c (.bool false)), none⟩])
  .ret) .skip))
  (.seq (.region false [] [⟨none, .load true 2 (.v 2), none⟩, ⟨none, .call false f_spec_l14Cut [(.r 0)], none⟩, ⟨none, .store 2 (.v 4) (.r 1), none⟩, ⟨some 5, .mov (.c (.bool true)), none⟩])
  .ret))),
  [.cell true 2 4, .v 5]⟩
def ir_impl_BusyIn : IFun := ⟨[0, 1, 2, 3, 4, 5, 6, 7, 8, 17, 22, 23, 24, 25, 30],
  (.seq (.region false [] [⟨some 2, .box t_impl_Spec 2 (.v 0), none⟩, ⟨some 3, .box t_impl_Case 2 (.v 1), none⟩, ⟨some 4, .nilrow t_int true 1, none⟩, ⟨some 5, .mov (.c (.bool false)), none⟩])
  (.seq (.seq (.region false [] [⟨none, .load true 2 (.v 2), none⟩, ⟨none, .call false f_impl_isSpec [(.r 0)], none⟩, ⟨none, .not (.r 1), none⟩, ⟨none, .mov (.r 2), none⟩, ⟨none, .load true 2 (.v 2), some (3, false)⟩, ⟨none, .load true 2 (.v 3), some (3, false)⟩, ⟨none, .call false f_impl_isCase [(.r 4), (.r 5)], some (3, false)⟩, ⟨none, .not (.r 6), some (3, false)⟩, ⟨some 9, .pick (.r 3) (.c (.bool true)) (.r 7), none⟩])
  (.cond (.v 9) (.seq (.region false [] [⟨some 4, .nilrow t_int true 1, none⟩, ⟨some 5, .mov (.c (.bool false)), none⟩])
  .ret) .skip))
  (.seq (.region false [] [⟨some 6, .nilrow t_int true 1, none⟩])
  (.seq (.seq (.region false [] [⟨none, .faddr 1 (.v 3), none⟩, ⟨none, .load false 1 (.r 0), none⟩, ⟨none, .faddr 0 (.v 2), none⟩, ⟨none, .load false 1 (.r 2), none⟩, ⟨some 10, .slice 1 (.r 1) (some (.r 3)) none, none⟩, ⟨some 11, .len false (.v 10), none⟩, ⟨some 12, .mov (.c (.int .i64 0)), none⟩])
  (.block 0 (.loop [false, false, false, false, false, false, true, false, false, false, true, true, true, false, false] (.seq (.region false [] [⟨some 13, .bin false .lss (.v 12) (.v 11), none⟩])
  (.seq (.cond (.v 13) .skip (.exit 0))
  (.seq (.block 1 (.seq (.region false [] [⟨none, .mov (.v 12), none⟩, ⟨none, .iaddr 1 (.v 10) (.v 12), none⟩, ⟨none, .load false 1 (.r 1), none⟩, ⟨some 7, .mov (.r 0), none⟩, ⟨some 8, .mov (.r 2), none⟩])
  (.seq (.region false [] [⟨none, .mov (.v 8), none⟩, ⟨some 14, .bin false .gtr (.r 0) (.c (.int .i64 0)), none⟩])
  (.cond (.v 14) (.region false [] [⟨none, .mov (.v 6), none⟩, ⟨none, .mov (.v 7), none⟩, ⟨none, .bslice false t_int true 1 [(.r 1)], none⟩, ⟨none, .append t_int true 1 (.r 0) (.r 2), none⟩, ⟨some 6, .mov (.r 3), none⟩]) .skip))))
  (.region false [] [⟨none, .bin false .add (.v 12) (.c (.int .i64 1)), none⟩, ⟨some 12, .mov (.r 0), none⟩])))))))
  (.seq (.region false [] [⟨none, .mov (.v 6), none⟩, ⟨some 4, .mov (.r 0), none⟩, ⟨some 5, .mov (.c (.bool true)), none⟩])
  .ret))))),
  [.v 4, .v 5]⟩
def ir_spec_l14Busy : IFun := ⟨[0, 1, 2, 3, 4, 5, 6, 9, 10, 11, 21],
  (.seq (.region false [] [⟨some 2, .box t_impl_Spec 2 (.v 0), none⟩, ⟨some 3, .box t_impl_Case 2 (.v 1), none⟩, ⟨some 4, .nilrow t_int true 1, none⟩])
  (.seq (.region false [] [⟨some 5, .nilrow t_int true 1, none⟩])
  (.seq (.seq (.region false [] [⟨none, .faddr 1 (.v 2), none⟩, ⟨none, .load false 1 (.r 0), none⟩, ⟨some 7, .len false (.r 1), none⟩, ⟨some 8, .mov (.c (.int .i64 0)), none⟩])
  (.block 0 (.loop [false, false, true, true, false, true, false, true, true, false, false] (.seq (.region false [] [⟨some 9, .bin false .lss (.v 8) (.v 7), none⟩])
  (.seq (.cond (.v 9) .skip (.exit 0))
  (.seq (.block 1 (.seq (.region false [] [⟨none, .mov (.v 8), none⟩, ⟨some 6, .mov (.r 0), none⟩])
  (.seq (.region false [] [⟨none, .faddr 1 (.v 3), none⟩, ⟨none, .load false 1 (.r 0), none⟩, ⟨none, .faddr 0 (.v 2), none⟩, ⟨none, .load false 1 (.r 2), none⟩, ⟨none, .mov (.v 6), none⟩, ⟨none, .bin false .add (.r 3) (.r 4), none⟩, ⟨none, .iaddr 1 (.r 1) (.r 5), none⟩, ⟨none, .load false 1 (.r 6), none⟩, ⟨some 10, .bin false .gtr (.r 7) (.c (.int .i64 0)), none⟩])
  (.cond (.v 10) (.region false [] [⟨none, .mov (.v 5), none⟩, ⟨none, .mov (.v 6), none⟩, ⟨none, .bslice false t_int true 1 [(.r 1)], none⟩, ⟨none, .append t_int true 1 (.r 0) (.r 2), none⟩, ⟨some 5, .mov (.r 3), none⟩]) .skip))))
  (.region false [] [⟨none, .bin false .add (.v 8) (.c (.int .i64 1)), none⟩, ⟨some 8, .mov (.r 0), none⟩])))))))
  (.seq (.region false [] [⟨none, .mov (.v 5), none⟩, ⟨some 4, .mov (.r 0), none⟩])
  .ret)))),
  [.v 4]⟩
def ir_spec_BusyIn : IFun := ⟨[0, 1, 2, 3, 4, 5, 9],
  (.seq (.region false [] [⟨some 2, .box t_impl_Spec 2 (.v 0), none⟩, ⟨some 3, .box t_impl_Case 2 (.v 1), none⟩, ⟨some 4, .nilrow t_int true 1, none⟩, ⟨some 5, .mov (.c (.bool false)), none⟩])
  (.seq (.seq (.region false [] [⟨none, .load true 2 (.v 2), none⟩, ⟨none, .load true 2 (.v 3), none⟩, ⟨none, .call false f_spec_GoodCase [(.r 0), (.r 1)], none⟩, ⟨some 6, .not (.r 2), none⟩])
  (.cond (.v 6) (.seq (.region false [] [⟨some 4, .nilrow t_int true 1, none⟩, ⟨some 5, .mov (.c (.bool false)), none⟩])
  .ret) .skip))
  (.seq (.region false [] [⟨none, .load true 2 (.v 2), none⟩, ⟨none, .load true 2 (.v 3), none⟩, ⟨none, .call false f_spec_l14Busy [(.r 0), (.r 1)], none⟩, ⟨some 4, .mov (.r 2), none⟩, ⟨some 5, .mov (.c (.bool true)), none⟩])
  .ret))),
  [.v 4, .v 5]⟩
def ir_laws_FnCaseSteps : IFun := ⟨[0, 1, 4, 5, 6, 7, 8, 9, 10, 11, 12, 13, 14, 15, 16, 17, 18, 19, 20, 21, 22, 24, 25, 26, 27, 28, 29, 30, 31, 32, 33, 34, 37, 96, 97, 118, 119, 120, 121, 157],
  (.seq (.region false [] [⟨some 2, .mov (.c (.bool false)), none⟩])
  (.seq (.seq (.region false [] [⟨none, .mov (.v 0), none⟩, ⟨none, .mov (.v 1), none⟩, ⟨some 32, .call false f_laws_big [(.r 0), (.r 1)], none⟩])
  (.cond (.v 32) (.seq (.region false [] [⟨some 2, .mov (.c (.bool true)), none⟩])
  .ret) .skip))
  (.seq (.region false [] [⟨none, .mov (.v 0), none⟩, ⟨none, .call false f_spec_DrawStepCase [(.r 0)], none⟩, ⟨none, .mov (.r 1), none⟩, ⟨none, .extract (.r 2) 0, none⟩, ⟨none, .extract (.r 2) 1, none⟩, ⟨none, .extract (.r 2) 2, none⟩, ⟨some 3, .alloc t_impl_Spec [(.int .i64 0), (.nil false 7)], none⟩, ⟨some 4, .alloc t_impl_Case [(.int .i64 0), (.nil true 1)], none⟩, ⟨some 5, .alloc t_impl_Move [(.int .i64 0), (.bool false), (.int .i64 0)], none⟩, ⟨none, .store 2 (.v 3) (.r 3), none⟩, ⟨none, .store 2 (.v 4) (.r 4), none⟩, ⟨none, .store 3 (.v 5) (.r 5), none⟩])
  (.seq (.region false [] [⟨none, .load true 2 (.v 3), none⟩, ⟨none, .load true 2 (.v 4), none⟩, ⟨none, .load true 3 (.v 5), none⟩, ⟨none, .call false f_impl_StepCase [(.r 0), (.r 1), (.r 2)], none⟩, ⟨none, .mov (.r 3), none⟩, ⟨none, .extract (.r 4) 0, none⟩, ⟨none, .extract (.r 4) 1, none⟩, ⟨some 6, .alloc t_impl_Case [(.int .i64 0), (.nil true 1)], none⟩, ⟨none, .store 2 (.v 6) (.r 5), none⟩, ⟨some 7, .mov (.r 6), none⟩])
  (.seq (.region false [] [⟨none, .load true 2 (.v 3), none⟩, ⟨none, .load true 2 (.v 4), none⟩, ⟨none, .load true 3 (.v 5), none⟩, ⟨none, .call false f_spec_StepCase [(.r 0), (.r 1), (.r 2)], none⟩, ⟨none, .mov (.r 3), none⟩, ⟨none, .extract (.r 4) 0, none⟩, ⟨none, .extract (.r 4) 1, none⟩, ⟨some 8, .alloc t_impl_Case [(.int .i64 0), (.nil true 1)], none⟩, ⟨none, .store 2 (.v 8) (.r 5), none⟩, ⟨some 9, .mov (.r 6), none⟩])
  (.seq (.region false [] [⟨none, .load true 2 (.v 3), none⟩, ⟨none, .load true 2 (.v 4), none⟩, ⟨none, .call false f_impl_MovesIn [(.r 0), (.r 1)], none⟩, ⟨none, .mov (.r 2), none⟩, ⟨none, .extract (.r 3) 0, none⟩, ⟨none, .extract (.r 3) 1, none⟩, ⟨some 10, .mov (.r 4), none⟩, ⟨some 11, .mov (.r 5), none⟩])
  (.seq (.region false [] [⟨none, .load true 2 (.v 3), none⟩, ⟨none, .load true 2 (.v 4), none⟩, ⟨none, .call false f_spec_MovesIn [(.r 0), (.r 1)], none⟩, ⟨none, .mov (.r 2), none⟩, ⟨none, .extract (.r 3) 0, none⟩, ⟨none, .extract (.r 3) 1, none⟩, ⟨some 12, .mov (.r 4), none⟩, ⟨some 13, .mov (.r 5), none⟩])
  (.seq (.seq (.region false [] [⟨none, .mov (.v 7), none⟩, ⟨none, .mov (.v 9), none⟩, ⟨none, .bin true .neq (.r 0) (.r 1), none⟩, ⟨none, .mov (.r 2), none⟩, ⟨none, .load true 2 (.v 6), some (3, false)⟩, ⟨none, .load true 2 (.v 8), some (3, false)⟩, ⟨none, .call false f_laws_sameCase [(.r 4), (.r 5)], some (3, false)⟩, ⟨none, .not (.r 6), some (3, false)⟩, ⟨none, .pick (.r 3) (.c (.bool true)) (.r 7), none⟩, ⟨none, .mov (.r 8), none⟩, ⟨none, .mov (.v 11), some (9, false)⟩, ⟨none, .mov (.v 13), some (9, false)⟩, ⟨none, .bin true .neq (.r 10) (.r 11), some (9, false)⟩, ⟨none, .pick (.r 9) (.c (.bool true)) (.r 12), none⟩, ⟨none, .mov (.r 13), none⟩, ⟨none, .mov (.v 10), some (14, false)⟩, ⟨none, .mov (.v 12), some (14, false)⟩, ⟨none, .call false f_laws_sameMoves [(.r 15), (.r 16)], some (14, false)⟩, ⟨none, .not (.r 17), some (14, false)⟩, ⟨none, .pick (.r 14) (.c (.bool true)) (.r 18), none⟩, ⟨none, .mov (.r 19), none⟩, ⟨none, .load true 2 (.v 3), some (20, false)⟩, ⟨none, .load true 2 (.v 4), some (20, false)⟩, ⟨none, .call false f_impl_GoodCase [(.r 21), (.r 22)], some (20, false)⟩, ⟨none, .mov (.v 11), some (20, false)⟩, ⟨none, .bin true .neq (.r 23) (.r 24), some (20, false)⟩, ⟨some 33, .pick (.r 20) (.c (.bool true)) (.r 25), none⟩])
  (.cond (.v 33) (.seq (.region false [] [⟨some 2, .mov (.c (.bool false)), none⟩])
  .ret) .skip))
  (.seq (.seq (.region false [] [⟨some 34, .mov (.v 7), none⟩])
  (.cond (.v 34) (.seq (.region false [] [⟨none, .load true 2 (.v 3), none⟩, ⟨none, .call false f_impl_SpecFlow [(.r 0)], none⟩, ⟨none, .mov (.r 1), none⟩, ⟨none, .extract (.r 2) 0, none⟩, ⟨none, .extract (.r 2) 1, none⟩, ⟨some 14, .alloc t_impl_Flow [(.int .i64 0), (.nil false 3), (.int .i64 0), (.int .i64 0)], none⟩, ⟨none, .store 4 (.v 14) (.r 3), none⟩, ⟨some 15, .mov (.r 4), none⟩])
  (.seq (.region false [] [⟨none, .load true 2 (.v 3), none⟩, ⟨none, .load true 3 (.v 5), none⟩, ⟨none, .call false f_impl_MoveNo [(.r 0), (.r 1)], none⟩, ⟨none, .mov (.r 2), none⟩, ⟨none, .extract (.r 3) 0, none⟩, ⟨none, .extract (.r 3) 1, none⟩, ⟨some 16, .mov (.r 4), none⟩, ⟨some 17, .mov (.r 5), none⟩])
  (.seq (.region false [] [⟨none, .faddr 0 (.v 14), none⟩, ⟨none, .load true 2 (.r 0), none⟩, ⟨none, .faddr 1 (.v 4), none⟩, ⟨none, .load false 1 (.r 2), none⟩, ⟨none, .mov (.v 16), none⟩, ⟨none, .call false f_impl_Fire [(.r 1), (.r 3), (.r 4)], none⟩, ⟨none, .mov (.r 5), none⟩, ⟨none, .extract (.r 6) 0, none⟩, ⟨none, .extract (.r 6) 1, none⟩, ⟨some 18, .mov (.r 7), none⟩, ⟨some 19, .mov (.r 8), none⟩])
  (.seq (.region false [] [⟨some 20, .mov (.c (.bool false)), none⟩])
  (.seq (.seq (.region false [] [⟨some 35, .mov (.v 10), none⟩, ⟨some 36, .len false (.v 35), none⟩, ⟨some 37, .mov (.c (.int .i64 0)), none⟩])
  (.block 0 (.loop [false, true, false, true, false, true, true, false, false, false, false, false, false, false, false, true, false, true, true, true, true, false, false, false, false, false, false, false, false, false, false, false, false, false, false, true, true, true, false, false] (.seq (.region false [] [⟨some 38, .bin false .lss (.v 37) (.v 36), none⟩])
  (.seq (.cond (.v 38) .skip (.exit 0))
  (.seq (.block 1 (.seq (.region false [] [⟨none, .iaddr 3 (.v 35) (.v 37), none⟩, ⟨none, .load true 3 (.r 0), none⟩, ⟨some 21, .alloc t_impl_Move [(.int .i64 0), (.bool false), (.int .i64 0)], none⟩, ⟨none, .store 3 (.v 21) (.r 1), none⟩])
  (.region false [] [⟨none, .mov (.v 20), none⟩, ⟨none, .mov (.r 0), none⟩, ⟨none, .load true 3 (.v 21), some (1, false)⟩, ⟨none, .load true 3 (.v 5), some (1, false)⟩, ⟨none, .eqs false [0, 1, 0] (.r 2) (.r 3), some (1, false)⟩, ⟨none, .pick (.r 1) (.c (.bool true)) (.r 4), none⟩, ⟨some 20, .mov (.r 5), none⟩])))
  (.region false [] [⟨none, .bin false .add (.v 37) (.c (.int .i64 1)), none⟩, ⟨some 37, .mov (.r 0), none⟩])))))))
  (.seq (.region false [] [⟨none, .mov (.v 15), none⟩, ⟨none, .not (.r 0), none⟩, ⟨none, .mov (.r 1), none⟩, ⟨none, .mov (.v 17), some (2, false)⟩, ⟨none, .not (.r 3), some (2, false)⟩, ⟨none, .pick (.r 2) (.c (.bool true)) (.r 4), none⟩, ⟨none, .mov (.r 5), none⟩, ⟨none, .mov (.v 19), some (6, false)⟩, ⟨none, .not (.r 7), some (6, false)⟩, ⟨none, .pick (.r 6) (.c (.bool true)) (.r 8), none⟩, ⟨none, .mov (.r 9), none⟩, ⟨none, .mov (.v 18), some (10, false)⟩, ⟨none, .faddr 1 (.v 6), some (10, false)⟩, ⟨none, .load false 1 (.r 12), some (10, false)⟩, ⟨none, .call false f_laws_sameInts [(.r 11), (.r 13)], some (10, false)⟩, ⟨none, .not (.r 14), some (10, false)⟩, ⟨none, .pick (.r 10) (.c (.bool true)) (.r 15), none⟩, ⟨none, .mov (.r 16), none⟩, ⟨none, .mov (.v 20), some (17, false)⟩, ⟨none, .not (.r 18), some (17, false)⟩, ⟨none, .pick (.r 17) (.c (.bool true)) (.r 19), none⟩, ⟨none, .mov (.r 20), none⟩, ⟨none, .load true 2 (.v 3), some (21, false)⟩, ⟨none, .load true 2 (.v 6), some (21, false)⟩, ⟨none, .call false f_impl_GoodCase [(.r 22), (.r 23)], some (21, false)⟩, ⟨none, .not (.r 24), some (21, false)⟩, ⟨some 39, .pick (.r 21) (.c (.bool true)) (.r 25), none⟩])
  (.cond (.v 39) (.seq (.region false [] [⟨some 2, .mov (.c (.bool false)), none⟩])
  .ret) .skip))))))) .skip))
  (.seq (.region false [] [⟨none, .mov (.v 1), none⟩, ⟨none, .call false f_spec_DrawCancelCase [(.r 0)], none⟩, ⟨none, .mov (.r 1), none⟩, ⟨none, .extract (.r 2) 0, none⟩, ⟨none, .extract (.r 2) 1, none⟩, ⟨some 22, .alloc t_impl_Spec [(.int .i64 0), (.nil false 7)], none⟩, ⟨some 23, .alloc t_impl_Case [(.int .i64 0), (.nil true 1)], none⟩, ⟨none, .store 2 (.v 22) (.r 3), none⟩, ⟨none, .store 2 (.v 23) (.r 4), none⟩])
  (.seq (.region false [] [⟨none, .load true 2 (.v 22), none⟩, ⟨none, .load true 2 (.v 23), none⟩, ⟨none, .call false f_impl_CancelCase [(.r 0), (.r 1)], none⟩, ⟨none, .mov (.r 2), none⟩, ⟨none, .extract (.r 3) 0, none⟩, ⟨none, .extract (.r 3) 1, none⟩, ⟨some 24, .alloc t_impl_Case [(.int .i64 0), (.nil true 1)], none⟩, ⟨none, .store 2 (.v 24) (.r 4), none⟩, ⟨some 25, .mov (.r 5), none⟩])
  (.seq (.region false [] [⟨none, .load true 2 (.v 22), none⟩, ⟨none, .load true 2 (.v 23), none⟩, ⟨none, .call false f_spec_CancelCase [(.r 0), (.r 1)], none⟩, ⟨none, .mov (.r 2), none⟩, ⟨none, .extract (.r 3) 0, none⟩, ⟨none, .extract (.r 3) 1, none⟩, ⟨some 26, .alloc t_impl_Case [(.int .i64 0), (.nil true 1)], none⟩, ⟨none, .store 2 (.v 26) (.r 4), none⟩, ⟨some 27, .mov (.r 5), none⟩])
  (.seq (.region false [] [⟨none, .load true 2 (.v 22), none⟩, ⟨none, .load true 2 (.v 23), none⟩, ⟨none, .call false f_impl_BusyIn [(.r 0), (.r 1)], none⟩, ⟨none, .mov (.r 2), none⟩, ⟨none, .extract (.r 3) 0, none⟩, ⟨none, .extract (.r 3) 1, none⟩, ⟨some 28, .mov (.r 4), none⟩, ⟨some 29, .mov (.r 5), none⟩])
  (.seq (.region false [] [⟨none, .load true 2 (.v 22), none⟩, ⟨none, .load true 2 (.v 23), none⟩, ⟨none, .call false f_spec_BusyIn [(.r 0), (.r 1)], none⟩, ⟨none, .mov (.r 2), none⟩, ⟨none, .extract (.r 3) 0, none⟩, ⟨none, .extract (.r 3) 1, none⟩, ⟨some 30, .mov (.r 4), none⟩, ⟨some 31, .mov (.r 5), none⟩])
  (.seq (.region false [] [⟨none, .mov (.v 25), none⟩, ⟨none, .mov (.v 27), none⟩, ⟨none, .bin true .eql (.r 0) (.r 1), none⟩, ⟨none, .mov (.r 2), none⟩, ⟨none, .load true 2 (.v 24), some (3, true)⟩, ⟨none, .load true 2 (.v 26), some (3, true)⟩, ⟨none, .call false f_laws_sameCase [(.r 4), (.r 5)], some (3, true)⟩, ⟨none, .pick (.r 3) (.r 6) (.c (.bool false)), none⟩, ⟨none, .mov (.r 7), none⟩, ⟨none, .mov (.v 29), some (8, true)⟩, ⟨none, .mov (.v 31), some (8, true)⟩, ⟨none, .bin true .eql (.r 9) (.r 10), some (8, true)⟩, ⟨none, .pick (.r 8) (.r 11) (.c (.bool false)), none⟩, ⟨none, .mov (.r 12), none⟩, ⟨none, .mov (.v 28), some (13, true)⟩, ⟨none, .mov (.v 30), some (13, true)⟩, ⟨none, .call false f_laws_sameInts [(.r 14), (.r 15)], some (13, true)⟩, ⟨none, .pick (.r 13) (.r 16) (.c (.bool false)), none⟩, ⟨none, .mov (.r 17), none⟩, ⟨none, .mov (.v 25), some (18, true)⟩, ⟨none, .not (.r 19), some (18, true)⟩, ⟨none, .mov (.r 20), some (18, true)⟩, ⟨none, .faddr 0 (.v 24), some (21, false)⟩, ⟨none, .load false 1 (.r 22), some (21, false)⟩, ⟨none, .bin false .eql (.r 23) (.c (.int .i64 3)), some (21, false)⟩, ⟨none, .pick (.r 21) (.c (.bool true)) (.r 24), some (18, true)⟩, ⟨none, .pick (.r 18) (.r 25) (.c (.bool false)), none⟩, ⟨some 2, .mov (.r 26), none⟩])
  .ret))))))))))))))),
  [.v 2]⟩
def tbl : List (FuncId × IFun) := [(f_laws_big, ir_laws_big), (f_spec_l1Cur_next, ir_spec_l1Cur_next), (f_spec_l1Cur_pick, ir_spec_l1Cur_pick), (f_spec_l1Cur_taskOf, ir_spec_l1Cur_taskOf), (f_spec_l1Cur_soundSpec, ir_spec_l1Cur_soundSpec), (f_spec_l1Put, ir_spec_l1Put), (f_spec_l1Cur_someOf, ir_spec_l1Cur_someOf), (f_spec_l1Cur_one, ir_spec_l1Cur_one), (f_spec_l1Cur_among, ir_spec_l1Cur_among), (f_spec_l1Cur_spec, ir_spec_l1Cur_spec), (f_spec_l1In, ir_spec_l1In), (f_spec_l1Has, ir_spec_l1Has), (f_spec_l1Rising, ir_spec_l1Rising), (f_spec_l13Task, ir_spec_l13Task), (f_spec_l1Own, ir_spec_l1Own), (f_spec_l1Set, ir_spec_l1Set), (f_spec_l13Some, ir_spec_l13Some), (f_spec_l13Region, ir_spec_l13Region), (f_spec_l13Lay, ir_spec_l13Lay), (f_spec_l1Places, ir_spec_l1Places), (f_spec_GoodNet, ir_spec_GoodNet), (f_spec_l3Forward, ir_spec_l3Forward), (f_spec_l3Back, ir_spec_l3Back), (f_spec_l3Both, ir_spec_l3Both), (f_spec_OnWay, ir_spec_OnWay), (f_spec_GoodFlow, ir_spec_GoodFlow), (f_spec_GoodSpec, ir_spec_GoodSpec), (f_spec_l3One, ir_spec_l3One), (f_spec_NewCase, ir_spec_NewCase), (f_spec_l2Can, ir_spec_l2Can), (f_spec_l2Enabled, ir_spec_l2Enabled), (f_spec_l14Moves, ir_spec_l14Moves), (f_spec_l13No, ir_spec_l13No), (f_spec_l1All, ir_spec_l1All), (f_spec_GoodMark, ir_spec_GoodMark), (f_spec_l2Marked, ir_spec_l2Marked), (f_spec_l2Fire, ir_spec_l2Fire), (f_spec_Fire, ir_spec_Fire), (f_spec_l14Step, ir_spec_l14Step), (f_spec_l1Cur_moves, ir_spec_l1Cur_moves), (f_spec_l14Own, ir_spec_l14Own), (f_spec_PlayCase, ir_spec_PlayCase), (f_spec_l1Cur_caseOf, ir_spec_l1Cur_caseOf), (f_spec_l14Case, ir_spec_l14Case), (f_spec_GoodCase, ir_spec_GoodCase), (f_spec_MovesIn, ir_spec_MovesIn), (f_spec_DrawStepCase, ir_spec_DrawStepCase), (f_impl_within, ir_impl_within), (f_impl_increasing, ir_impl_increasing), (f_impl_allWithin, ir_impl_allWithin), (f_impl_areConds, ir_impl_areConds), (f_slices_Index_sl_int_int, ir_slices_Index_sl_int_int), (f_slices_Contains_sl_int_int, ir_slices_Contains_sl_int_int), (f_impl_isTask, ir_impl_isTask), (f_impl_movesOf, ir_impl_movesOf), (f_impl_setOf, ir_impl_setOf), (f_impl_regionOf, ir_impl_regionOf), (f_impl_transOf, ir_impl_transOf), (f_impl_specFlow, ir_impl_specFlow), (f_impl_arePlaces, ir_impl_arePlaces), (f_impl_GoodNet_1, ir_impl_GoodNet_1), (f_slices_IndexFunc_sl_impl_Trans_impl_Trans, ir_slices_IndexFunc_sl_impl_Trans_impl_Trans), (f_slices_ContainsFunc_sl_impl_Trans_impl_Trans, ir_slices_ContainsFunc_sl_impl_Trans_impl_Trans), (f_impl_GoodNet, ir_impl_GoodNet), (f_impl_reachedFrom_1, ir_impl_reachedFrom_1), (f_slices_IndexFunc_sl_int_int, ir_slices_IndexFunc_sl_int_int), (f_slices_ContainsFunc_sl_int_int, ir_slices_ContainsFunc_sl_int_int), (f_impl_reachedFrom, ir_impl_reachedFrom), (f_impl_bothOf, ir_impl_bothOf), (f_impl_onWay, ir_impl_onWay), (f_impl_GoodFlow, ir_impl_GoodFlow), (f_impl_isSpec, ir_impl_isSpec), (f_impl_GoodMark, ir_impl_GoodMark), (f_impl_isCase, ir_impl_isCase), (f_impl_isEnabled_1, ir_impl_isEnabled_1), (f_impl_isEnabled, ir_impl_isEnabled), (f_impl_movesIn_1, ir_impl_movesIn_1), (f_slices_IndexFunc_sl_impl_Move_impl_Move, ir_slices_IndexFunc_sl_impl_Move_impl_Move), (f_slices_DeleteFunc_sl_impl_Move_impl_Move, ir_slices_DeleteFunc_sl_impl_Move_impl_Move), (f_impl_movesIn, ir_impl_movesIn), (f_slices_Index_sl_impl_Move_impl_Move, ir_slices_Index_sl_impl_Move_impl_Move), (f_slices_Contains_sl_impl_Move_impl_Move, ir_slices_Contains_sl_impl_Move_impl_Move), (f_impl_fired, ir_impl_fired), (f_impl_checkedMark, ir_impl_checkedMark), (f_impl_stepCase, ir_impl_stepCase), (f_impl_StepCase, ir_impl_StepCase), (f_spec_StepCase, ir_spec_StepCase), (f_impl_MovesIn, ir_impl_MovesIn), (f_laws_sameInts, ir_laws_sameInts), (f_laws_sameCase, ir_laws_sameCase), (f_laws_sameMoves, ir_laws_sameMoves), (f_impl_GoodCase, ir_impl_GoodCase), (f_impl_SpecFlow, ir_impl_SpecFlow), (f_impl_MoveNo, ir_impl_MoveNo), (f_impl_isMarked, ir_impl_isMarked), (f_impl_isTrans, ir_impl_isTrans), (f_impl_Fire, ir_impl_Fire), (f_spec_DrawGoodCase, ir_spec_DrawGoodCase), (f_spec_DrawCancelCase, ir_spec_DrawCancelCase), (f_impl_CancelCase, ir_impl_CancelCase), (f_spec_l14Cut, ir_spec_l14Cut), (f_spec_CancelCase, ir_spec_CancelCase), (f_impl_BusyIn, ir_impl_BusyIn), (f_spec_l14Busy, ir_spec_l14Busy), (f_spec_BusyIn, ir_spec_BusyIn), (f_laws_FnCaseSteps, ir_laws_FnCaseSteps)]
def F (f : FuncId) : Option IFun := (tbl.find? fun p => p.1 == f).map (·.2)
def exts : List (FuncId × (List PV → Option PV)) := [(f_slices_Clone_sl_int_int, ext_slices_Clone_sl_int_int)]
def ext (f : FuncId) : Option (List PV → Option PV) := (exts.find? fun p => p.1 == f).map (·.2)
noncomputable def C : Orc := lim F ext
theorem C_laws_big {args : List PV} {M : List Blk} {r : PV × List Blk} (h : W C M.length ir_laws_big.body ⟨start ir_laws_big args, M⟩ (Lv M.length ir_laws_big.results r)) : C f_laws_big args M = some r := call_of rfl rfl h
theorem E_spec_l1Cur_next {args : List PV} {M : List Blk} {P : PV × List Blk → Prop} (h : W C M.length ir_spec_l1Cur_next.body ⟨start ir_spec_l1Cur_next args, M⟩ (Le' M.length ir_spec_l1Cur_next.results P)) : Lw (C f_spec_l1Cur_next args M) P := call_ex rfl rfl h
theorem C_spec_l1Cur_next {args : List PV} {M : List Blk} {r : PV × List Blk} (h : W C M.length ir_spec_l1Cur_next.body ⟨start ir_spec_l1Cur_next args, M⟩ (Lv M.length ir_spec_l1Cur_next.results r)) : C f_spec_l1Cur_next args M = some r := call_of rfl rfl h
theorem E_spec_l1Cur_pick {args : List PV} {M : List Blk} {P : PV × List Blk → Prop} (h : W C M.length ir_spec_l1Cur_pick.body ⟨start ir_spec_l1Cur_pick args, M⟩ (Le' M.length ir_spec_l1Cur_pick.results P)) : Lw (C f_spec_l1Cur_pick args M) P := call_ex rfl rfl h
theorem C_spec_l1Cur_pick {args : List PV} {M : List Blk} {r : PV × List Blk} (h : W C M.length ir_spec_l1Cur_pick.body ⟨start ir_spec_l1Cur_pick args, M⟩ (Lv M.length ir_spec_l1Cur_pick.results r)) : C f_spec_l1Cur_pick args M = some r := call_of rfl rfl h
theorem E_spec_l1Cur_taskOf {args : List PV} {M : List Blk} {P : PV × List Blk → Prop} (h : W C M.length ir_spec_l1Cur_taskOf.body ⟨start ir_spec_l1Cur_taskOf args, M⟩ (Le' M.length ir_spec_l1Cur_taskOf.results P)) : Lw (C f_spec_l1Cur_taskOf args M) P := call_ex rfl rfl h
theorem C_spec_l1Cur_taskOf {args : List PV} {M : List Blk} {r : PV × List Blk} (h : W C M.length ir_spec_l1Cur_taskOf.body ⟨start ir_spec_l1Cur_taskOf args, M⟩ (Lv M.length ir_spec_l1Cur_taskOf.results r)) : C f_spec_l1Cur_taskOf args M = some r := call_of rfl rfl h
theorem E_spec_l1Cur_soundSpec {args : List PV} {M : List Blk} {P : PV × List Blk → Prop} (h : W C M.length ir_spec_l1Cur_soundSpec.body ⟨start ir_spec_l1Cur_soundSpec args, M⟩ (Le' M.length ir_spec_l1Cur_soundSpec.results P)) : Lw (C f_spec_l1Cur_soundSpec args M) P := call_ex rfl rfl h
theorem C_spec_l1Cur_soundSpec {args : List PV} {M : List Blk} {r : PV × List Blk} (h : W C M.length ir_spec_l1Cur_soundSpec.body ⟨start ir_spec_l1Cur_soundSpec args, M⟩ (Lv M.length ir_spec_l1Cur_soundSpec.results r)) : C f_spec_l1Cur_soundSpec args M = some r := call_of rfl rfl h
theorem E_spec_l1Put {args : List PV} {M : List Blk} {P : PV × List Blk → Prop} (h : W C M.length ir_spec_l1Put.body ⟨start ir_spec_l1Put args, M⟩ (Le' M.length ir_spec_l1Put.results P)) : Lw (C f_spec_l1Put args M) P := call_ex rfl rfl h
theorem C_spec_l1Put {args : List PV} {M : List Blk} {r : PV × List Blk} (h : W C M.length ir_spec_l1Put.body ⟨start ir_spec_l1Put args, M⟩ (Lv M.length ir_spec_l1Put.results r)) : C f_spec_l1Put args M = some r := call_of rfl rfl h
theorem E_spec_l1Cur_someOf {args : List PV} {M : List Blk} {P : PV × List Blk → Prop} (h : W C M.length ir_spec_l1Cur_someOf.body ⟨start ir_spec_l1Cur_someOf args, M⟩ (Le' M.length ir_spec_l1Cur_someOf.results P)) : Lw (C f_spec_l1Cur_someOf args M) P := call_ex rfl rfl h
theorem C_spec_l1Cur_someOf {args : List PV} {M : List Blk} {r : PV × List Blk} (h : W C M.length ir_spec_l1Cur_someOf.body ⟨start ir_spec_l1Cur_someOf args, M⟩ (Lv M.length ir_spec_l1Cur_someOf.results r)) : C f_spec_l1Cur_someOf args M = some r := call_of rfl rfl h
theorem E_spec_l1Cur_one {args : List PV} {M : List Blk} {P : PV × List Blk → Prop} (h : W C M.length ir_spec_l1Cur_one.body ⟨start ir_spec_l1Cur_one args, M⟩ (Le' M.length ir_spec_l1Cur_one.results P)) : Lw (C f_spec_l1Cur_one args M) P := call_ex rfl rfl h
theorem C_spec_l1Cur_one {args : List PV} {M : List Blk} {r : PV × List Blk} (h : W C M.length ir_spec_l1Cur_one.body ⟨start ir_spec_l1Cur_one args, M⟩ (Lv M.length ir_spec_l1Cur_one.results r)) : C f_spec_l1Cur_one args M = some r := call_of rfl rfl h
theorem E_spec_l1Cur_among {args : List PV} {M : List Blk} {P : PV × List Blk → Prop} (h : W C M.length ir_spec_l1Cur_among.body ⟨start ir_spec_l1Cur_among args, M⟩ (Le' M.length ir_spec_l1Cur_among.results P)) : Lw (C f_spec_l1Cur_among args M) P := call_ex rfl rfl h
theorem C_spec_l1Cur_among {args : List PV} {M : List Blk} {r : PV × List Blk} (h : W C M.length ir_spec_l1Cur_among.body ⟨start ir_spec_l1Cur_among args, M⟩ (Lv M.length ir_spec_l1Cur_among.results r)) : C f_spec_l1Cur_among args M = some r := call_of rfl rfl h
theorem E_spec_l1Cur_spec {args : List PV} {M : List Blk} {P : PV × List Blk → Prop} (h : W C M.length ir_spec_l1Cur_spec.body ⟨start ir_spec_l1Cur_spec args, M⟩ (Le' M.length ir_spec_l1Cur_spec.results P)) : Lw (C f_spec_l1Cur_spec args M) P := call_ex rfl rfl h
theorem C_spec_l1Cur_spec {args : List PV} {M : List Blk} {r : PV × List Blk} (h : W C M.length ir_spec_l1Cur_spec.body ⟨start ir_spec_l1Cur_spec args, M⟩ (Lv M.length ir_spec_l1Cur_spec.results r)) : C f_spec_l1Cur_spec args M = some r := call_of rfl rfl h
theorem C_spec_l1In {args : List PV} {M : List Blk} {r : PV × List Blk} (h : W C M.length ir_spec_l1In.body ⟨start ir_spec_l1In args, M⟩ (Lv M.length ir_spec_l1In.results r)) : C f_spec_l1In args M = some r := call_of rfl rfl h
theorem C_spec_l1Has {args : List PV} {M : List Blk} {r : PV × List Blk} (h : W C M.length ir_spec_l1Has.body ⟨start ir_spec_l1Has args, M⟩ (Lv M.length ir_spec_l1Has.results r)) : C f_spec_l1Has args M = some r := call_of rfl rfl h
theorem C_spec_l1Rising {args : List PV} {M : List Blk} {r : PV × List Blk} (h : W C M.length ir_spec_l1Rising.body ⟨start ir_spec_l1Rising args, M⟩ (Lv M.length ir_spec_l1Rising.results r)) : C f_spec_l1Rising args M = some r := call_of rfl rfl h
theorem C_spec_l13Task {args : List PV} {M : List Blk} {r : PV × List Blk} (h : W C M.length ir_spec_l13Task.body ⟨start ir_spec_l13Task args, M⟩ (Lv M.length ir_spec_l13Task.results r)) : C f_spec_l13Task args M = some r := call_of rfl rfl h
theorem C_spec_l1Own {args : List PV} {M : List Blk} {r : PV × List Blk} (h : W C M.length ir_spec_l1Own.body ⟨start ir_spec_l1Own args, M⟩ (Lv M.length ir_spec_l1Own.results r)) : C f_spec_l1Own args M = some r := call_of rfl rfl h
theorem C_spec_l1Set {args : List PV} {M : List Blk} {r : PV × List Blk} (h : W C M.length ir_spec_l1Set.body ⟨start ir_spec_l1Set args, M⟩ (Lv M.length ir_spec_l1Set.results r)) : C f_spec_l1Set args M = some r := call_of rfl rfl h
theorem C_spec_l13Some {args : List PV} {M : List Blk} {r : PV × List Blk} (h : W C M.length ir_spec_l13Some.body ⟨start ir_spec_l13Some args, M⟩ (Lv M.length ir_spec_l13Some.results r)) : C f_spec_l13Some args M = some r := call_of rfl rfl h
theorem C_spec_l13Region {args : List PV} {M : List Blk} {r : PV × List Blk} (h : W C M.length ir_spec_l13Region.body ⟨start ir_spec_l13Region args, M⟩ (Lv M.length ir_spec_l13Region.results r)) : C f_spec_l13Region args M = some r := call_of rfl rfl h
theorem C_spec_l13Lay {args : List PV} {M : List Blk} {r : PV × List Blk} (h : W C M.length ir_spec_l13Lay.body ⟨start ir_spec_l13Lay args, M⟩ (Lv M.length ir_spec_l13Lay.results r)) : C f_spec_l13Lay args M = some r := call_of rfl rfl h
theorem C_spec_l1Places {args : List PV} {M : List Blk} {r : PV × List Blk} (h : W C M.length ir_spec_l1Places.body ⟨start ir_spec_l1Places args, M⟩ (Lv M.length ir_spec_l1Places.results r)) : C f_spec_l1Places args M = some r := call_of rfl rfl h
theorem C_spec_GoodNet {args : List PV} {M : List Blk} {r : PV × List Blk} (h : W C M.length ir_spec_GoodNet.body ⟨start ir_spec_GoodNet args, M⟩ (Lv M.length ir_spec_GoodNet.results r)) : C f_spec_GoodNet args M = some r := call_of rfl rfl h
theorem C_spec_l3Forward {args : List PV} {M : List Blk} {r : PV × List Blk} (h : W C M.length ir_spec_l3Forward.body ⟨start ir_spec_l3Forward args, M⟩ (Lv M.length ir_spec_l3Forward.results r)) : C f_spec_l3Forward args M = some r := call_of rfl rfl h
theorem C_spec_l3Back {args : List PV} {M : List Blk} {r : PV × List Blk} (h : W C M.length ir_spec_l3Back.body ⟨start ir_spec_l3Back args, M⟩ (Lv M.length ir_spec_l3Back.results r)) : C f_spec_l3Back args M = some r := call_of rfl rfl h
theorem C_spec_l3Both {args : List PV} {M : List Blk} {r : PV × List Blk} (h : W C M.length ir_spec_l3Both.body ⟨start ir_spec_l3Both args, M⟩ (Lv M.length ir_spec_l3Both.results r)) : C f_spec_l3Both args M = some r := call_of rfl rfl h
theorem C_spec_OnWay {args : List PV} {M : List Blk} {r : PV × List Blk} (h : W C M.length ir_spec_OnWay.body ⟨start ir_spec_OnWay args, M⟩ (Lv M.length ir_spec_OnWay.results r)) : C f_spec_OnWay args M = some r := call_of rfl rfl h
theorem C_spec_GoodFlow {args : List PV} {M : List Blk} {r : PV × List Blk} (h : W C M.length ir_spec_GoodFlow.body ⟨start ir_spec_GoodFlow args, M⟩ (Lv M.length ir_spec_GoodFlow.results r)) : C f_spec_GoodFlow args M = some r := call_of rfl rfl h
theorem C_spec_GoodSpec {args : List PV} {M : List Blk} {r : PV × List Blk} (h : W C M.length ir_spec_GoodSpec.body ⟨start ir_spec_GoodSpec args, M⟩ (Lv M.length ir_spec_GoodSpec.results r)) : C f_spec_GoodSpec args M = some r := call_of rfl rfl h
theorem C_spec_l3One {args : List PV} {M : List Blk} {r : PV × List Blk} (h : W C M.length ir_spec_l3One.body ⟨start ir_spec_l3One args, M⟩ (Lv M.length ir_spec_l3One.results r)) : C f_spec_l3One args M = some r := call_of rfl rfl h
theorem C_spec_NewCase {args : List PV} {M : List Blk} {r : PV × List Blk} (h : W C M.length ir_spec_NewCase.body ⟨start ir_spec_NewCase args, M⟩ (Lv M.length ir_spec_NewCase.results r)) : C f_spec_NewCase args M = some r := call_of rfl rfl h
theorem C_spec_l2Can {args : List PV} {M : List Blk} {r : PV × List Blk} (h : W C M.length ir_spec_l2Can.body ⟨start ir_spec_l2Can args, M⟩ (Lv M.length ir_spec_l2Can.results r)) : C f_spec_l2Can args M = some r := call_of rfl rfl h
theorem C_spec_l2Enabled {args : List PV} {M : List Blk} {r : PV × List Blk} (h : W C M.length ir_spec_l2Enabled.body ⟨start ir_spec_l2Enabled args, M⟩ (Lv M.length ir_spec_l2Enabled.results r)) : C f_spec_l2Enabled args M = some r := call_of rfl rfl h
theorem C_spec_l14Moves {args : List PV} {M : List Blk} {r : PV × List Blk} (h : W C M.length ir_spec_l14Moves.body ⟨start ir_spec_l14Moves args, M⟩ (Lv M.length ir_spec_l14Moves.results r)) : C f_spec_l14Moves args M = some r := call_of rfl rfl h
theorem C_spec_l13No {args : List PV} {M : List Blk} {r : PV × List Blk} (h : W C M.length ir_spec_l13No.body ⟨start ir_spec_l13No args, M⟩ (Lv M.length ir_spec_l13No.results r)) : C f_spec_l13No args M = some r := call_of rfl rfl h
theorem C_spec_l1All {args : List PV} {M : List Blk} {r : PV × List Blk} (h : W C M.length ir_spec_l1All.body ⟨start ir_spec_l1All args, M⟩ (Lv M.length ir_spec_l1All.results r)) : C f_spec_l1All args M = some r := call_of rfl rfl h
theorem C_spec_GoodMark {args : List PV} {M : List Blk} {r : PV × List Blk} (h : W C M.length ir_spec_GoodMark.body ⟨start ir_spec_GoodMark args, M⟩ (Lv M.length ir_spec_GoodMark.results r)) : C f_spec_GoodMark args M = some r := call_of rfl rfl h
theorem C_spec_l2Marked {args : List PV} {M : List Blk} {r : PV × List Blk} (h : W C M.length ir_spec_l2Marked.body ⟨start ir_spec_l2Marked args, M⟩ (Lv M.length ir_spec_l2Marked.results r)) : C f_spec_l2Marked args M = some r := call_of rfl rfl h
theorem C_spec_l2Fire {args : List PV} {M : List Blk} {r : PV × List Blk} (h : W C M.length ir_spec_l2Fire.body ⟨start ir_spec_l2Fire args, M⟩ (Lv M.length ir_spec_l2Fire.results r)) : C f_spec_l2Fire args M = some r := call_of rfl rfl h
theorem C_spec_Fire {args : List PV} {M : List Blk} {r : PV × List Blk} (h : W C M.length ir_spec_Fire.body ⟨start ir_spec_Fire args, M⟩ (Lv M.length ir_spec_Fire.results r)) : C f_spec_Fire args M = some r := call_of rfl rfl h
theorem C_spec_l14Step {args : List PV} {M : List Blk} {r : PV × List Blk} (h : W C M.length ir_spec_l14Step.body ⟨start ir_spec_l14Step args, M⟩ (Lv M.length ir_spec_l14Step.results r)) : C f_spec_l14Step args M = some r := call_of rfl rfl h
theorem E_spec_l1Cur_moves {args : List PV} {M : List Blk} {P : PV × List Blk → Prop} (h : W C M.length ir_spec_l1Cur_moves.body ⟨start ir_spec_l1Cur_moves args, M⟩ (Le' M.length ir_spec_l1Cur_moves.results P)) : Lw (C f_spec_l1Cur_moves args M) P := call_ex rfl rfl h
theorem C_spec_l1Cur_moves {args : List PV} {M : List Blk} {r : PV × List Blk} (h : W C M.length ir_spec_l1Cur_moves.body ⟨start ir_spec_l1Cur_moves args, M⟩ (Lv M.length ir_spec_l1Cur_moves.results r)) : C f_spec_l1Cur_moves args M = some r := call_of rfl rfl h
theorem C_spec_l14Own {args : List PV} {M : List Blk} {r : PV × List Blk} (h : W C M.length ir_spec_l14Own.body ⟨start ir_spec_l14Own args, M⟩ (Lv M.length ir_spec_l14Own.results r)) : C f_spec_l14Own args M = some r := call_of rfl rfl h
theorem C_spec_PlayCase {args : List PV} {M : List Blk} {r : PV × List Blk} (h : W C M.length ir_spec_PlayCase.body ⟨start ir_spec_PlayCase args, M⟩ (Lv M.length ir_spec_PlayCase.results r)) : C f_spec_PlayCase args M = some r := call_of rfl rfl h
theorem E_spec_l1Cur_caseOf {args : List PV} {M : List Blk} {P : PV × List Blk → Prop} (h : W C M.length ir_spec_l1Cur_caseOf.body ⟨start ir_spec_l1Cur_caseOf args, M⟩ (Le' M.length ir_spec_l1Cur_caseOf.results P)) : Lw (C f_spec_l1Cur_caseOf args M) P := call_ex rfl rfl h
theorem C_spec_l1Cur_caseOf {args : List PV} {M : List Blk} {r : PV × List Blk} (h : W C M.length ir_spec_l1Cur_caseOf.body ⟨start ir_spec_l1Cur_caseOf args, M⟩ (Lv M.length ir_spec_l1Cur_caseOf.results r)) : C f_spec_l1Cur_caseOf args M = some r := call_of rfl rfl h
theorem C_spec_l14Case {args : List PV} {M : List Blk} {r : PV × List Blk} (h : W C M.length ir_spec_l14Case.body ⟨start ir_spec_l14Case args, M⟩ (Lv M.length ir_spec_l14Case.results r)) : C f_spec_l14Case args M = some r := call_of rfl rfl h
theorem C_spec_GoodCase {args : List PV} {M : List Blk} {r : PV × List Blk} (h : W C M.length ir_spec_GoodCase.body ⟨start ir_spec_GoodCase args, M⟩ (Lv M.length ir_spec_GoodCase.results r)) : C f_spec_GoodCase args M = some r := call_of rfl rfl h
theorem C_spec_MovesIn {args : List PV} {M : List Blk} {r : PV × List Blk} (h : W C M.length ir_spec_MovesIn.body ⟨start ir_spec_MovesIn args, M⟩ (Lv M.length ir_spec_MovesIn.results r)) : C f_spec_MovesIn args M = some r := call_of rfl rfl h
theorem E_spec_DrawStepCase {args : List PV} {M : List Blk} {P : PV × List Blk → Prop} (h : W C M.length ir_spec_DrawStepCase.body ⟨start ir_spec_DrawStepCase args, M⟩ (Le' M.length ir_spec_DrawStepCase.results P)) : Lw (C f_spec_DrawStepCase args M) P := call_ex rfl rfl h
theorem C_spec_DrawStepCase {args : List PV} {M : List Blk} {r : PV × List Blk} (h : W C M.length ir_spec_DrawStepCase.body ⟨start ir_spec_DrawStepCase args, M⟩ (Lv M.length ir_spec_DrawStepCase.results r)) : C f_spec_DrawStepCase args M = some r := call_of rfl rfl h
theorem C_impl_within {args : List PV} {M : List Blk} {r : PV × List Blk} (h : W C M.length ir_impl_within.body ⟨start ir_impl_within args, M⟩ (Lv M.length ir_impl_within.results r)) : C f_impl_within args M = some r := call_of rfl rfl h
theorem C_impl_increasing {args : List PV} {M : List Blk} {r : PV × List Blk} (h : W C M.length ir_impl_increasing.body ⟨start ir_impl_increasing args, M⟩ (Lv M.length ir_impl_increasing.results r)) : C f_impl_increasing args M = some r := call_of rfl rfl h
theorem C_impl_allWithin {args : List PV} {M : List Blk} {r : PV × List Blk} (h : W C M.length ir_impl_allWithin.body ⟨start ir_impl_allWithin args, M⟩ (Lv M.length ir_impl_allWithin.results r)) : C f_impl_allWithin args M = some r := call_of rfl rfl h
theorem C_impl_areConds {args : List PV} {M : List Blk} {r : PV × List Blk} (h : W C M.length ir_impl_areConds.body ⟨start ir_impl_areConds args, M⟩ (Lv M.length ir_impl_areConds.results r)) : C f_impl_areConds args M = some r := call_of rfl rfl h
theorem C_slices_Index_sl_int_int {args : List PV} {M : List Blk} {r : PV × List Blk} (h : W C M.length ir_slices_Index_sl_int_int.body ⟨start ir_slices_Index_sl_int_int args, M⟩ (Lv M.length ir_slices_Index_sl_int_int.results r)) : C f_slices_Index_sl_int_int args M = some r := call_of rfl rfl h
theorem C_slices_Contains_sl_int_int {args : List PV} {M : List Blk} {r : PV × List Blk} (h : W C M.length ir_slices_Contains_sl_int_int.body ⟨start ir_slices_Contains_sl_int_int args, M⟩ (Lv M.length ir_slices_Contains_sl_int_int.results r)) : C f_slices_Contains_sl_int_int args M = some r := call_of rfl rfl h
theorem C_impl_isTask {args : List PV} {M : List Blk} {r : PV × List Blk} (h : W C M.length ir_impl_isTask.body ⟨start ir_impl_isTask args, M⟩ (Lv M.length ir_impl_isTask.results r)) : C f_impl_isTask args M = some r := call_of rfl rfl h
theorem C_impl_movesOf {args : List PV} {M : List Blk} {r : PV × List Blk} (h : W C M.length ir_impl_movesOf.body ⟨start ir_impl_movesOf args, M⟩ (Lv M.length ir_impl_movesOf.results r)) : C f_impl_movesOf args M = some r := call_of rfl rfl h
theorem C_impl_setOf {args : List PV} {M : List Blk} {r : PV × List Blk} (h : W C M.length ir_impl_setOf.body ⟨start ir_impl_setOf args, M⟩ (Lv M.length ir_impl_setOf.results r)) : C f_impl_setOf args M = some r := call_of rfl rfl h
theorem C_impl_regionOf {args : List PV} {M : List Blk} {r : PV × List Blk} (h : W C M.length ir_impl_regionOf.body ⟨start ir_impl_regionOf args, M⟩ (Lv M.length ir_impl_regionOf.results r)) : C f_impl_regionOf args M = some r := call_of rfl rfl h
theorem C_impl_transOf {args : List PV} {M : List Blk} {r : PV × List Blk} (h : W C M.length ir_impl_transOf.body ⟨start ir_impl_transOf args, M⟩ (Lv M.length ir_impl_transOf.results r)) : C f_impl_transOf args M = some r := call_of rfl rfl h
theorem C_impl_specFlow {args : List PV} {M : List Blk} {r : PV × List Blk} (h : W C M.length ir_impl_specFlow.body ⟨start ir_impl_specFlow args, M⟩ (Lv M.length ir_impl_specFlow.results r)) : C f_impl_specFlow args M = some r := call_of rfl rfl h
theorem C_impl_arePlaces {args : List PV} {M : List Blk} {r : PV × List Blk} (h : W C M.length ir_impl_arePlaces.body ⟨start ir_impl_arePlaces args, M⟩ (Lv M.length ir_impl_arePlaces.results r)) : C f_impl_arePlaces args M = some r := call_of rfl rfl h
theorem C_impl_GoodNet_1 {args : List PV} {M : List Blk} {r : PV × List Blk} (h : W C M.length ir_impl_GoodNet_1.body ⟨start ir_impl_GoodNet_1 args, M⟩ (Lv M.length ir_impl_GoodNet_1.results r)) : C f_impl_GoodNet_1 args M = some r := call_of rfl rfl h
theorem C_slices_IndexFunc_sl_impl_Trans_impl_Trans {args : List PV} {M : List Blk} {r : PV × List Blk} (h : W C M.length ir_slices_IndexFunc_sl_impl_Trans_impl_Trans.body ⟨start ir_slices_IndexFunc_sl_impl_Trans_impl_Trans args, M⟩ (Lv M.length ir_slices_IndexFunc_sl_impl_Trans_impl_Trans.results r)) : C f_slices_IndexFunc_sl_impl_Trans_impl_Trans args M = some r := call_of rfl rfl h
theorem C_slices_ContainsFunc_sl_impl_Trans_impl_Trans {args : List PV} {M : List Blk} {r : PV × List Blk} (h : W C M.length ir_slices_ContainsFunc_sl_impl_Trans_impl_Trans.body ⟨start ir_slices_ContainsFunc_sl_impl_Trans_impl_Trans args, M⟩ (Lv M.length ir_slices_ContainsFunc_sl_impl_Trans_impl_Trans.results r)) : C f_slices_ContainsFunc_sl_impl_Trans_impl_Trans args M = some r := call_of rfl rfl h
theorem C_impl_GoodNet {args : List PV} {M : List Blk} {r : PV × List Blk} (h : W C M.length ir_impl_GoodNet.body ⟨start ir_impl_GoodNet args, M⟩ (Lv M.length ir_impl_GoodNet.results r)) : C f_impl_GoodNet args M = some r := call_of rfl rfl h
theorem C_impl_reachedFrom_1 {args : List PV} {M : List Blk} {r : PV × List Blk} (h : W C M.length ir_impl_reachedFrom_1.body ⟨start ir_impl_reachedFrom_1 args, M⟩ (Lv M.length ir_impl_reachedFrom_1.results r)) : C f_impl_reachedFrom_1 args M = some r := call_of rfl rfl h
theorem C_slices_IndexFunc_sl_int_int {args : List PV} {M : List Blk} {r : PV × List Blk} (h : W C M.length ir_slices_IndexFunc_sl_int_int.body ⟨start ir_slices_IndexFunc_sl_int_int args, M⟩ (Lv M.length ir_slices_IndexFunc_sl_int_int.results r)) : C f_slices_IndexFunc_sl_int_int args M = some r := call_of rfl rfl h
theorem C_slices_ContainsFunc_sl_int_int {args : List PV} {M : List Blk} {r : PV × List Blk} (h : W C M.length ir_slices_ContainsFunc_sl_int_int.body ⟨start ir_slices_ContainsFunc_sl_int_int args, M⟩ (Lv M.length ir_slices_ContainsFunc_sl_int_int.results r)) : C f_slices_ContainsFunc_sl_int_int args M = some r := call_of rfl rfl h
theorem C_impl_reachedFrom {args : List PV} {M : List Blk} {r : PV × List Blk} (h : W C M.length ir_impl_reachedFrom.body ⟨start ir_impl_reachedFrom args, M⟩ (Lv M.length ir_impl_reachedFrom.results r)) : C f_impl_reachedFrom args M = some r := call_of rfl rfl h
theorem C_impl_bothOf {args : List PV} {M : List Blk} {r : PV × List Blk} (h : W C M.length ir_impl_bothOf.body ⟨start ir_impl_bothOf args, M⟩ (Lv M.length ir_impl_bothOf.results r)) : C f_impl_bothOf args M = some r := call_of rfl rfl h
theorem C_impl_onWay {args : List PV} {M : List Blk} {r : PV × List Blk} (h : W C M.length ir_impl_onWay.body ⟨start ir_impl_onWay args, M⟩ (Lv M.length ir_impl_onWay.results r)) : C f_impl_onWay args M = some r := call_of rfl rfl h
theorem C_impl_GoodFlow {args : List PV} {M : List Blk} {r : PV × List Blk} (h : W C M.length ir_impl_GoodFlow.body ⟨start ir_impl_GoodFlow args, M⟩ (Lv M.length ir_impl_GoodFlow.results r)) : C f_impl_GoodFlow args M = some r := call_of rfl rfl h
theorem C_impl_isSpec {args : List PV} {M : List Blk} {r : PV × List Blk} (h : W C M.length ir_impl_isSpec.body ⟨start ir_impl_isSpec args, M⟩ (Lv M.length ir_impl_isSpec.results r)) : C f_impl_isSpec args M = some r := call_of rfl rfl h
theorem C_impl_GoodMark {args : List PV} {M : List Blk} {r : PV × List Blk} (h : W C M.length ir_impl_GoodMark.body ⟨start ir_impl_GoodMark args, M⟩ (Lv M.length ir_impl_GoodMark.results r)) : C f_impl_GoodMark args M = some r := call_of rfl rfl h
theorem C_impl_isCase {args : List PV} {M : List Blk} {r : PV × List Blk} (h : W C M.length ir_impl_isCase.body ⟨start ir_impl_isCase args, M⟩ (Lv M.length ir_impl_isCase.results r)) : C f_impl_isCase args M = some r := call_of rfl rfl h
theorem C_impl_isEnabled_1 {args : List PV} {M : List Blk} {r : PV × List Blk} (h : W C M.length ir_impl_isEnabled_1.body ⟨start ir_impl_isEnabled_1 args, M⟩ (Lv M.length ir_impl_isEnabled_1.results r)) : C f_impl_isEnabled_1 args M = some r := call_of rfl rfl h
theorem C_impl_isEnabled {args : List PV} {M : List Blk} {r : PV × List Blk} (h : W C M.length ir_impl_isEnabled.body ⟨start ir_impl_isEnabled args, M⟩ (Lv M.length ir_impl_isEnabled.results r)) : C f_impl_isEnabled args M = some r := call_of rfl rfl h
theorem C_impl_movesIn_1 {args : List PV} {M : List Blk} {r : PV × List Blk} (h : W C M.length ir_impl_movesIn_1.body ⟨start ir_impl_movesIn_1 args, M⟩ (Lv M.length ir_impl_movesIn_1.results r)) : C f_impl_movesIn_1 args M = some r := call_of rfl rfl h
theorem C_slices_IndexFunc_sl_impl_Move_impl_Move {args : List PV} {M : List Blk} {r : PV × List Blk} (h : W C M.length ir_slices_IndexFunc_sl_impl_Move_impl_Move.body ⟨start ir_slices_IndexFunc_sl_impl_Move_impl_Move args, M⟩ (Lv M.length ir_slices_IndexFunc_sl_impl_Move_impl_Move.results r)) : C f_slices_IndexFunc_sl_impl_Move_impl_Move args M = some r := call_of rfl rfl h
theorem E_slices_DeleteFunc_sl_impl_Move_impl_Move {args : List PV} {M : List Blk} {P : PV × List Blk → Prop} (h : W C M.length ir_slices_DeleteFunc_sl_impl_Move_impl_Move.body ⟨start ir_slices_DeleteFunc_sl_impl_Move_impl_Move args, M⟩ (Le' M.length ir_slices_DeleteFunc_sl_impl_Move_impl_Move.results P)) : Lw (C f_slices_DeleteFunc_sl_impl_Move_impl_Move args M) P := call_ex rfl rfl h
theorem C_slices_DeleteFunc_sl_impl_Move_impl_Move {args : List PV} {M : List Blk} {r : PV × List Blk} (h : W C M.length ir_slices_DeleteFunc_sl_impl_Move_impl_Move.body ⟨start ir_slices_DeleteFunc_sl_impl_Move_impl_Move args, M⟩ (Lv M.length ir_slices_DeleteFunc_sl_impl_Move_impl_Move.results r)) : C f_slices_DeleteFunc_sl_impl_Move_impl_Move args M = some r := call_of rfl rfl h
theorem E_impl_movesIn {args : List PV} {M : List Blk} {P : PV × List Blk → Prop} (h : W C M.length ir_impl_movesIn.body ⟨start ir_impl_movesIn args, M⟩ (Le' M.length ir_impl_movesIn.results P)) : Lw (C f_impl_movesIn args M) P := call_ex rfl rfl h
theorem C_impl_movesIn {args : List PV} {M : List Blk} {r : PV × List Blk} (h : W C M.length ir_impl_movesIn.body ⟨start ir_impl_movesIn args, M⟩ (Lv M.length ir_impl_movesIn.results r)) : C f_impl_movesIn args M = some r := call_of rfl rfl h
theorem C_slices_Index_sl_impl_Move_impl_Move {args : List PV} {M : List Blk} {r : PV × List Blk} (h : W C M.length ir_slices_Index_sl_impl_Move_impl_Move.body ⟨start ir_slices_Index_sl_impl_Move_impl_Move args, M⟩ (Lv M.length ir_slices_Index_sl_impl_Move_impl_Move.results r)) : C f_slices_Index_sl_impl_Move_impl_Move args M = some r := call_of rfl rfl h
theorem C_slices_Contains_sl_impl_Move_impl_Move {args : List PV} {M : List Blk} {r : PV × List Blk} (h : W C M.length ir_slices_Contains_sl_impl_Move_impl_Move.body ⟨start ir_slices_Contains_sl_impl_Move_impl_Move args, M⟩ (Lv M.length ir_slices_Contains_sl_impl_Move_impl_Move.results r)) : C f_slices_Contains_sl_impl_Move_impl_Move args M = some r := call_of rfl rfl h
theorem C_impl_fired {args : List PV} {M : List Blk} {r : PV × List Blk} (h : W C M.length ir_impl_fired.body ⟨start ir_impl_fired args, M⟩ (Lv M.length ir_impl_fired.results r)) : C f_impl_fired args M = some r := call_of rfl rfl h
theorem C_impl_checkedMark {args : List PV} {M : List Blk} {r : PV × List Blk} (h : W C M.length ir_impl_checkedMark.body ⟨start ir_impl_checkedMark args, M⟩ (Lv M.length ir_impl_checkedMark.results r)) : C f_impl_checkedMark args M = some r := call_of rfl rfl h
theorem C_impl_stepCase {args : List PV} {M : List Blk} {r : PV × List Blk} (h : W C M.length ir_impl_stepCase.body ⟨start ir_impl_stepCase args, M⟩ (Lv M.length ir_impl_stepCase.results r)) : C f_impl_stepCase args M = some r := call_of rfl rfl h
theorem C_impl_StepCase {args : List PV} {M : List Blk} {r : PV × List Blk} (h : W C M.length ir_impl_StepCase.body ⟨start ir_impl_StepCase args, M⟩ (Lv M.length ir_impl_StepCase.results r)) : C f_impl_StepCase args M = some r := call_of rfl rfl h
theorem C_spec_StepCase {args : List PV} {M : List Blk} {r : PV × List Blk} (h : W C M.length ir_spec_StepCase.body ⟨start ir_spec_StepCase args, M⟩ (Lv M.length ir_spec_StepCase.results r)) : C f_spec_StepCase args M = some r := call_of rfl rfl h
theorem E_impl_MovesIn {args : List PV} {M : List Blk} {P : PV × List Blk → Prop} (h : W C M.length ir_impl_MovesIn.body ⟨start ir_impl_MovesIn args, M⟩ (Le' M.length ir_impl_MovesIn.results P)) : Lw (C f_impl_MovesIn args M) P := call_ex rfl rfl h
theorem C_impl_MovesIn {args : List PV} {M : List Blk} {r : PV × List Blk} (h : W C M.length ir_impl_MovesIn.body ⟨start ir_impl_MovesIn args, M⟩ (Lv M.length ir_impl_MovesIn.results r)) : C f_impl_MovesIn args M = some r := call_of rfl rfl h
theorem C_laws_sameInts {args : List PV} {M : List Blk} {r : PV × List Blk} (h : W C M.length ir_laws_sameInts.body ⟨start ir_laws_sameInts args, M⟩ (Lv M.length ir_laws_sameInts.results r)) : C f_laws_sameInts args M = some r := call_of rfl rfl h
theorem C_laws_sameCase {args : List PV} {M : List Blk} {r : PV × List Blk} (h : W C M.length ir_laws_sameCase.body ⟨start ir_laws_sameCase args, M⟩ (Lv M.length ir_laws_sameCase.results r)) : C f_laws_sameCase args M = some r := call_of rfl rfl h
theorem C_laws_sameMoves {args : List PV} {M : List Blk} {r : PV × List Blk} (h : W C M.length ir_laws_sameMoves.body ⟨start ir_laws_sameMoves args, M⟩ (Lv M.length ir_laws_sameMoves.results r)) : C f_laws_sameMoves args M = some r := call_of rfl rfl h
theorem C_impl_GoodCase {args : List PV} {M : List Blk} {r : PV × List Blk} (h : W C M.length ir_impl_GoodCase.body ⟨start ir_impl_GoodCase args, M⟩ (Lv M.length ir_impl_GoodCase.results r)) : C f_impl_GoodCase args M = some r := call_of rfl rfl h
theorem C_impl_SpecFlow {args : List PV} {M : List Blk} {r : PV × List Blk} (h : W C M.length ir_impl_SpecFlow.body ⟨start ir_impl_SpecFlow args, M⟩ (Lv M.length ir_impl_SpecFlow.results r)) : C f_impl_SpecFlow args M = some r := call_of rfl rfl h
theorem C_impl_MoveNo {args : List PV} {M : List Blk} {r : PV × List Blk} (h : W C M.length ir_impl_MoveNo.body ⟨start ir_impl_MoveNo args, M⟩ (Lv M.length ir_impl_MoveNo.results r)) : C f_impl_MoveNo args M = some r := call_of rfl rfl h
theorem C_impl_isMarked {args : List PV} {M : List Blk} {r : PV × List Blk} (h : W C M.length ir_impl_isMarked.body ⟨start ir_impl_isMarked args, M⟩ (Lv M.length ir_impl_isMarked.results r)) : C f_impl_isMarked args M = some r := call_of rfl rfl h
theorem C_impl_isTrans {args : List PV} {M : List Blk} {r : PV × List Blk} (h : W C M.length ir_impl_isTrans.body ⟨start ir_impl_isTrans args, M⟩ (Lv M.length ir_impl_isTrans.results r)) : C f_impl_isTrans args M = some r := call_of rfl rfl h
theorem C_impl_Fire {args : List PV} {M : List Blk} {r : PV × List Blk} (h : W C M.length ir_impl_Fire.body ⟨start ir_impl_Fire args, M⟩ (Lv M.length ir_impl_Fire.results r)) : C f_impl_Fire args M = some r := call_of rfl rfl h
theorem E_spec_DrawGoodCase {args : List PV} {M : List Blk} {P : PV × List Blk → Prop} (h : W C M.length ir_spec_DrawGoodCase.body ⟨start ir_spec_DrawGoodCase args, M⟩ (Le' M.length ir_spec_DrawGoodCase.results P)) : Lw (C f_spec_DrawGoodCase args M) P := call_ex rfl rfl h
theorem C_spec_DrawGoodCase {args : List PV} {M : List Blk} {r : PV × List Blk} (h : W C M.length ir_spec_DrawGoodCase.body ⟨start ir_spec_DrawGoodCase args, M⟩ (Lv M.length ir_spec_DrawGoodCase.results r)) : C f_spec_DrawGoodCase args M = some r := call_of rfl rfl h
theorem E_spec_DrawCancelCase {args : List PV} {M : List Blk} {P : PV × List Blk → Prop} (h : W C M.length ir_spec_DrawCancelCase.body ⟨start ir_spec_DrawCancelCase args, M⟩ (Le' M.length ir_spec_DrawCancelCase.results P)) : Lw (C f_spec_DrawCancelCase args M) P := call_ex rfl rfl h
theorem C_spec_DrawCancelCase {args : List PV} {M : List Blk} {r : PV × List Blk} (h : W C M.length ir_spec_DrawCancelCase.body ⟨start ir_spec_DrawCancelCase args, M⟩ (Lv M.length ir_spec_DrawCancelCase.results r)) : C f_spec_DrawCancelCase args M = some r := call_of rfl rfl h
theorem C_impl_CancelCase {args : List PV} {M : List Blk} {r : PV × List Blk} (h : W C M.length ir_impl_CancelCase.body ⟨start ir_impl_CancelCase args, M⟩ (Lv M.length ir_impl_CancelCase.results r)) : C f_impl_CancelCase args M = some r := call_of rfl rfl h
theorem C_spec_l14Cut {args : List PV} {M : List Blk} {r : PV × List Blk} (h : W C M.length ir_spec_l14Cut.body ⟨start ir_spec_l14Cut args, M⟩ (Lv M.length ir_spec_l14Cut.results r)) : C f_spec_l14Cut args M = some r := call_of rfl rfl h
theorem C_spec_CancelCase {args : List PV} {M : List Blk} {r : PV × List Blk} (h : W C M.length ir_spec_CancelCase.body ⟨start ir_spec_CancelCase args, M⟩ (Lv M.length ir_spec_CancelCase.results r)) : C f_spec_CancelCase args M = some r := call_of rfl rfl h
theorem C_impl_BusyIn {args : List PV} {M : List Blk} {r : PV × List Blk} (h : W C M.length ir_impl_BusyIn.body ⟨start ir_impl_BusyIn args, M⟩ (Lv M.length ir_impl_BusyIn.results r)) : C f_impl_BusyIn args M = some r := call_of rfl rfl h
theorem C_spec_l14Busy {args : List PV} {M : List Blk} {r : PV × List Blk} (h : W C M.length ir_spec_l14Busy.body ⟨start ir_spec_l14Busy args, M⟩ (Lv M.length ir_spec_l14Busy.results r)) : C f_spec_l14Busy args M = some r := call_of rfl rfl h
theorem C_spec_BusyIn {args : List PV} {M : List Blk} {r : PV × List Blk} (h : W C M.length ir_spec_BusyIn.body ⟨start ir_spec_BusyIn args, M⟩ (Lv M.length ir_spec_BusyIn.results r)) : C f_spec_BusyIn args M = some r := call_of rfl rfl h
theorem C_laws_FnCaseSteps {args : List PV} {M : List Blk} {r : PV × List Blk} (h : W C M.length ir_laws_FnCaseSteps.body ⟨start ir_laws_FnCaseSteps args, M⟩ (Lv M.length ir_laws_FnCaseSteps.results r)) : C f_laws_FnCaseSteps args M = some r := call_of rfl rfl h
theorem slices_Clone_sl_int_int_ok {es : List PV} (h : es.length ≤ 68719476736) : C f_slices_Clone_sl_int_int [.sl true 1 es] [] = some (.un t_int true 1 es, []) := lim_ext (e := ext_slices_Clone_sl_int_int) rfl (by simp [ext_slices_Clone_sl_int_int, extClone, h])
end Go.Proofs.YtoimodnlefadhaaGreat.Pi
