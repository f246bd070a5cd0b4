/- The forms of the functions that the law reaches, and their oracle. Definitions alone; no condition. -/
import Derived.Test.YtngjepmopahgdaaPiRx
namespace Go.Proofs.Ytngjepmopahgdaa.Pi
open Go
set_option linter.all false
abbrev t_int : TypeId := 3
abbrev t_sl_int : TypeId := 24
abbrev t_spec_l1Cur : TypeId := 101
abbrev f_laws_big : FuncId := 15
abbrev f_spec_l1Cur_next : FuncId := 233
abbrev f_spec_l1Cur_pick : FuncId := 137
abbrev f_spec_l1Cur_among : FuncId := 206
abbrev f_spec_l1Cur_places : FuncId := 117
abbrev f_spec_l1Cur_one : FuncId := 136
abbrev f_spec_l1Cur_mark : FuncId := 118
abbrev f_spec_DrawAddMarks : FuncId := 16
abbrev f_impl_within : FuncId := 127
abbrev f_impl_allWithin : FuncId := 128
abbrev f_impl_GoodMark : FuncId := 24
abbrev f_impl_areMarks_1 : FuncId := 231
abbrev f_slices_IndexFunc_sl_sl_int_sl_int : FuncId := 256
abbrev f_slices_ContainsFunc_sl_sl_int_sl_int : FuncId := 230
abbrev f_impl_areMarks : FuncId := 119
abbrev f_impl_combined : FuncId := 121
abbrev f_impl_AddMarks_1 : FuncId := 122
abbrev f_impl_checkedMark : FuncId := 120
abbrev f_impl_AddMarks : FuncId := 17
abbrev f_spec_l1In : FuncId := 143
abbrev f_spec_l1Places : FuncId := 129
abbrev f_spec_l1All : FuncId := 130
abbrev f_spec_GoodMark : FuncId := 25
abbrev f_spec_l1Two : FuncId := 123
abbrev f_spec_AddMarks : FuncId := 18
abbrev f_impl_covers : FuncId := 124
abbrev f_impl_Covers : FuncId := 19
abbrev f_spec_l1Covers : FuncId := 125
abbrev f_spec_Covers : FuncId := 20
abbrev f_impl_TakeMarks_1 : FuncId := 126
abbrev f_impl_TakeMarks : FuncId := 21
abbrev f_spec_TakeMarks : FuncId := 22
abbrev f_laws_sameInts : FuncId := 23
abbrev f_impl_sumOf : FuncId := 131
abbrev f_impl_TotalOf : FuncId := 26
abbrev f_spec_DrawGoodMark : FuncId := 132
abbrev f_spec_DrawTotalOf : FuncId := 27
abbrev f_spec_l1Total : FuncId := 133
abbrev f_spec_TotalOf : FuncId := 28
abbrev f_laws_FnMarks : FuncId := 3
def ir_laws_big : IFun := ⟨[0, 1, 4],
  (.seq (.region false [] [⟨some 2, .mov (.c (.bool false)), none⟩])
  (.seq (.region false [] [⟨none, .mov (.v 0), none⟩, ⟨none, .len false (.r 0), none⟩, ⟨none, .bin false .gtr (.r 1) (.c (.int .i64 1048576)), none⟩, ⟨none, .mov (.r 2), none⟩, ⟨none, .mov (.v 1), some (3, false)⟩, ⟨none, .len false (.r 4), some (3, false)⟩, ⟨none, .mov (.v 0), some (3, false)⟩, ⟨none, .len false (.r 6), some (3, false)⟩, ⟨none, .bin false .sub (.c (.int .i64 1048576)) (.r 7), some (3, false)⟩, ⟨none, .bin false .gtr (.r 5) (.r 8), some (3, false)⟩, ⟨none, .pick (.r 3) (.c (.bool true)) (.r 9), none⟩, ⟨some 2, .mov (.r 10), none⟩])
  .ret)),
  [.v 2]⟩
def ir_spec_l1Cur_next : IFun := ⟨[0, 2, 3, 13, 53],
  (.seq (.region false [] [⟨some 1, .mov (.c (.int .i64 0)), none⟩])
  (.seq (.region false [] [⟨some 2, .mov (.c (.int .i64 0)), none⟩])
  (.seq (.seq (.region true [] [⟨none, .mov (.v 0), none⟩, ⟨none, .ncheck (.r 0), none⟩, ⟨none, .faddr 1 (.r 1), none⟩, ⟨none, .load false 1 (.r 2), none⟩, ⟨none, .mov (.v 0), none⟩, ⟨none, .ncheck (.r 4), none⟩, ⟨none, .faddr 0 (.r 5), none⟩, ⟨none, .load false 1 (.r 6), none⟩, ⟨none, .len false (.r 7), none⟩, ⟨some 3, .bin false .lss (.r 3) (.r 8), none⟩])
  (.cond (.v 3) (.region true [] [⟨none, .mov (.v 0), none⟩, ⟨none, .ncheck (.r 0), none⟩, ⟨none, .faddr 0 (.r 1), none⟩, ⟨none, .load false 1 (.r 2), none⟩, ⟨none, .mov (.v 0), none⟩, ⟨none, .ncheck (.r 4), none⟩, ⟨none, .faddr 1 (.r 5), none⟩, ⟨none, .load false 1 (.r 6), none⟩, ⟨none, .iaddr 1 (.r 3) (.r 7), none⟩, ⟨none, .load false 1 (.r 8), none⟩, ⟨none, .conv .i64 (.r 9), none⟩, ⟨some 2, .mov (.r 10), none⟩]) .skip))
  (.seq (.region false [] [⟨none, .mov (.v 0), none⟩, ⟨none, .ncheck (.r 0), none⟩, ⟨none, .faddr 1 (.r 1), none⟩, ⟨none, .load false 1 (.r 2), none⟩, ⟨none, .bin false .add (.r 3) (.c (.int .i64 1)), none⟩, ⟨none, .ncheck (.r 0), none⟩, ⟨none, .faddr 1 (.r 5), none⟩, ⟨none, .store 1 (.r 6) (.r 4), none⟩])
  (.seq (.region false [] [⟨none, .mov (.v 0), none⟩, ⟨none, .mov (.v 0), none⟩, ⟨none, .ncheck (.r 1), none⟩, ⟨none, .faddr 2 (.r 2), none⟩, ⟨none, .load false 1 (.r 3), none⟩, ⟨none, .bin false .mul (.r 4) (.c (.int .u64 6364136223846793005)), none⟩, ⟨none, .mov (.v 2), none⟩, ⟨none, .conv .u64 (.r 6), none⟩, ⟨none, .bin false .add (.r 5) (.r 7), none⟩, ⟨none, .bin false .add (.r 8) (.c (.int .u64 1442695040888963407)), none⟩, ⟨none, .ncheck (.r 0), none⟩, ⟨none, .faddr 2 (.r 10), none⟩, ⟨none, .store 1 (.r 11) (.r 9), none⟩])
  (.seq (.seq (.region true [] [⟨none, .mov (.v 0), none⟩, ⟨none, .ncheck (.r 0), none⟩, ⟨none, .faddr 1 (.r 1), none⟩, ⟨none, .load false 1 (.r 2), none⟩, ⟨none, .mov (.v 0), none⟩, ⟨none, .ncheck (.r 4), none⟩, ⟨none, .faddr 0 (.r 5), none⟩, ⟨none, .load false 1 (.r 6), none⟩, ⟨none, .len false (.r 7), none⟩, ⟨some 4, .bin false .leq (.r 3) (.r 8), none⟩])
  (.cond (.v 4) (.seq (.region false [] [⟨none, .mov (.v 2), none⟩, ⟨some 1, .mov (.r 0), none⟩])
  .ret) .skip))
  (.seq (.region false [] [⟨none, .mov (.v 0), none⟩, ⟨none, .ncheck (.r 0), none⟩, ⟨none, .faddr 2 (.r 1), none⟩, ⟨none, .load false 1 (.r 2), none⟩, ⟨none, .bin false .shr (.r 3) (.c (.int .u64 40)), none⟩, ⟨none, .bin false .and (.r 4) (.c (.int .u64 255)), none⟩, ⟨none, .conv .i64 (.r 5), none⟩, ⟨some 1, .mov (.r 6), none⟩])
  .ret))))))),
  [.v 1]⟩
def ir_spec_l1Cur_pick : IFun := ⟨[0, 1, 4, 5, 7, 11],
  (.seq (.region false [] [⟨some 2, .mov (.c (.int .i64 0)), none⟩])
  (.seq (.seq (.region false [] [⟨none, .mov (.v 1), none⟩, ⟨some 4, .bin false .leq (.r 0) (.c (.int .i64 1)), none⟩])
  (.cond (.v 4) (.seq (.region false [] [⟨some 2, .mov (.c (.int .i64 0)), none⟩])
  .ret) .skip))
  (.seq (.region false [] [⟨none, .mov (.v 0), none⟩, ⟨none, .callm f_spec_l1Cur_next [(.r 0)], none⟩, ⟨some 3, .mov (.r 1), none⟩])
  (.seq (.seq (.region false [] [⟨none, .mov (.v 1), none⟩, ⟨some 5, .bin false .gtr (.r 0) (.c (.int .i64 200)), none⟩])
  (.cond (.v 5) (.region false [] [⟨none, .mov (.v 3), none⟩, ⟨none, .bin false .mul (.r 0) (.c (.int .i64 256)), none⟩, ⟨none, .mov (.v 0), none⟩, ⟨none, .callm f_spec_l1Cur_next [(.r 2)], none⟩, ⟨none, .bin false .add (.r 1) (.r 3), none⟩, ⟨some 3, .mov (.r 4), none⟩]) .skip))
  (.seq (.region false [] [⟨none, .mov (.v 3), none⟩, ⟨none, .mov (.v 1), none⟩, ⟨none, .bin false .rem (.r 0) (.r 1), none⟩, ⟨some 2, .mov (.r 2), none⟩])
  .ret))))),
  [.v 2]⟩
def ir_spec_l1Cur_among : IFun := ⟨[0, 1, 4],
  (.seq (.region false [] [⟨some 2, .mov (.c (.int .i64 0)), none⟩])
  (.seq (.region false [] [⟨none, .mov (.v 1), none⟩, ⟨none, .mov (.v 0), none⟩, ⟨none, .mov (.v 1), none⟩, ⟨none, .len false (.r 2), none⟩, ⟨none, .callm f_spec_l1Cur_pick [(.r 1), (.r 3)], none⟩, ⟨none, .iaddr 1 (.r 0) (.r 4), none⟩, ⟨none, .load false 1 (.r 5), none⟩, ⟨some 2, .mov (.r 6), none⟩])
  .ret)),
  [.v 2]⟩
def ir_spec_l1Cur_places : IFun := ⟨[0, 2],
  (.seq (.region false [] [⟨some 1, .mov (.c (.int .i64 0)), none⟩])
  (.seq (.region false [] [⟨none, .mov (.v 0), none⟩, ⟨none, .bslice false t_int true 1 [(.c (.int .i64 1)), (.c (.int .i64 2)), (.c (.int .i64 3)), (.c (.int .i64 4)), (.c (.int .i64 5)), (.c (.int .i64 16)), (.c (.int .i64 0)), (.c (.int .i64 17))], none⟩, ⟨none, .callm f_spec_l1Cur_among [(.r 0), (.r 1)], none⟩, ⟨some 1, .mov (.r 2), none⟩])
  .ret)),
  [.v 1]⟩
def ir_spec_l1Cur_one : IFun := ⟨[0, 1, 4],
  (.seq (.region false [] [⟨some 2, .mov (.c (.bool false)), none⟩])
  (.seq (.region false [] [⟨none, .mov (.v 0), none⟩, ⟨none, .mov (.v 1), none⟩, ⟨none, .callm f_spec_l1Cur_pick [(.r 0), (.r 1)], none⟩, ⟨none, .bin false .eql (.r 2) (.c (.int .i64 0)), none⟩, ⟨some 2, .mov (.r 3), none⟩])
  .ret)),
  [.v 2]⟩
def ir_spec_l1Cur_mark : IFun := ⟨[0, 1, 4, 5, 6, 7, 10, 16, 25],
  (.seq (.region false [] [⟨some 2, .nilrow t_int true 1, none⟩])
  (.seq (.region false [] [⟨some 3, .nilrow t_int true 1, none⟩])
  (.seq (.seq (.region false [] [⟨some 4, .mov (.c (.int .i64 0)), none⟩])
  (.block 0 (.loop [true, true, false, true, true, false, false, false, false] (.seq (.seq (.region false [] [⟨none, .mov (.v 4), none⟩, ⟨none, .mov (.v 1), none⟩, ⟨some 6, .bin false .lss (.r 0) (.r 1), none⟩])
  (.cond (.v 6) .skip (.exit 0)))
  (.seq (.block 1 (.seq (.region false [] [⟨none, .mov (.v 0), none⟩, ⟨none, .callm f_spec_l1Cur_pick [(.r 0), (.c (.int .i64 3))], none⟩, ⟨some 5, .mov (.r 1), none⟩])
  (.seq (.seq (.region false [] [⟨none, .mov (.v 0), none⟩, ⟨some 7, .callm f_spec_l1Cur_one [(.r 0), (.c (.int .i64 12))], none⟩])
  (.cond (.v 7) (.region false [] [⟨none, .mov (.v 0), none⟩, ⟨none, .bslice false t_int true 1 [(.c (.int .i64 49)), (.c (.int .i64 50)), (.c (.int .i64 51))], none⟩, ⟨none, .callm f_spec_l1Cur_among [(.r 0), (.r 1)], none⟩, ⟨some 5, .mov (.r 2), none⟩]) .skip))
  (.region false [] [⟨none, .mov (.v 3), none⟩, ⟨none, .mov (.v 5), none⟩, ⟨none, .bslice false t_int true 1 [(.r 1)], none⟩, ⟨none, .append t_int true 1 (.r 0) (.r 2), none⟩, ⟨some 3, .mov (.r 3), none⟩]))))
  (.region false [] [⟨none, .mov (.v 4), none⟩, ⟨none, .bin false .add (.r 0) (.c (.int .i64 1)), none⟩, ⟨some 4, .mov (.r 1), none⟩]))))))
  (.seq (.seq (.region false [] [⟨none, .mov (.v 0), none⟩, ⟨some 8, .callm f_spec_l1Cur_one [(.r 0), (.c (.int .i64 40))], none⟩])
  (.cond (.v 8) (.region false [] [⟨none, .mov (.v 3), none⟩, ⟨none, .bslice false t_int true 1 [(.c (.int .i64 0))], none⟩, ⟨none, .append t_int true 1 (.r 0) (.r 1), none⟩, ⟨some 3, .mov (.r 2), none⟩]) .skip))
  (.seq (.region false [] [⟨none, .mov (.v 3), none⟩, ⟨some 2, .mov (.r 0), none⟩])
  .ret))))),
  [.v 2]⟩
def ir_spec_DrawAddMarks : IFun := ⟨[0, 2, 3, 4, 5, 6],
  (.seq (.region false [] [⟨some 1, .mov (.c (.int .i64 0)), none⟩, ⟨some 2, .nilrow t_int true 1, none⟩, ⟨some 3, .nilrow t_int true 1, none⟩])
  (.seq (.region false [] [⟨none, .mov (.v 0), none⟩, ⟨none, .build [(.nil true 1), (.int .i64 0), (.int .u64 0)] [(0, 1, (.r 0))], none⟩, ⟨none, .box t_spec_l1Cur 3 (.r 1), none⟩, ⟨some 4, .mov (.r 2), none⟩])
  (.seq (.region false [] [⟨none, .mov (.v 4), none⟩, ⟨none, .callm f_spec_l1Cur_places [(.r 0)], none⟩, ⟨some 5, .mov (.r 1), none⟩])
  (.seq (.region false [] [⟨none, .mov (.v 5), none⟩, ⟨none, .mov (.v 4), none⟩, ⟨none, .mov (.v 5), none⟩, ⟨none, .callm f_spec_l1Cur_mark [(.r 1), (.r 2)], none⟩, ⟨none, .mov (.v 4), none⟩, ⟨none, .mov (.v 5), none⟩, ⟨none, .callm f_spec_l1Cur_mark [(.r 4), (.r 5)], none⟩, ⟨some 1, .mov (.r 0), none⟩, ⟨some 2, .mov (.r 3), none⟩, ⟨some 3, .mov (.r 6), none⟩])
  .ret)))),
  [.v 1, .v 2, .v 3]⟩
def ir_impl_within : IFun := ⟨[0, 1, 2, 6],
  (.seq (.region false [] [⟨some 3, .mov (.c (.bool false)), none⟩])
  (.seq (.region false [] [⟨none, .mov (.v 0), none⟩, ⟨none, .mov (.v 1), none⟩, ⟨none, .bin false .geq (.r 0) (.r 1), none⟩, ⟨none, .mov (.r 2), none⟩, ⟨none, .mov (.v 0), some (3, true)⟩, ⟨none, .mov (.v 2), some (3, true)⟩, ⟨none, .bin false .leq (.r 4) (.r 5), some (3, true)⟩, ⟨none, .pick (.r 3) (.r 6) (.c (.bool false)), none⟩, ⟨some 3, .mov (.r 7), none⟩])
  .ret)),
  [.v 3]⟩
def ir_impl_allWithin : IFun := ⟨[0, 1, 2, 6, 8, 9, 10, 11, 12, 19],
  (.seq (.region false [] [⟨some 3, .mov (.c (.bool false)), none⟩])
  (.seq (.seq (.region false [] [⟨some 5, .mov (.v 0), none⟩, ⟨some 6, .len false (.v 5), none⟩, ⟨some 7, .mov (.c (.int .i64 0)), none⟩])
  (.block 0 (.loop [false, true, true, false, false, true, true, true, false, false] (.seq (.region false [] [⟨some 8, .bin false .lss (.v 7) (.v 6), none⟩])
  (.seq (.cond (.v 8) .skip (.exit 0))
  (.seq (.block 1 (.seq (.region false [] [⟨none, .iaddr 1 (.v 5) (.v 7), none⟩, ⟨none, .load false 1 (.r 0), none⟩, ⟨some 4, .mov (.r 1), none⟩])
  (.seq (.region false [] [⟨none, .mov (.v 4), none⟩, ⟨none, .mov (.v 1), none⟩, ⟨none, .mov (.v 2), none⟩, ⟨none, .call false f_impl_within [(.r 0), (.r 1), (.r 2)], none⟩, ⟨some 9, .not (.r 3), none⟩])
  (.cond (.v 9) (.seq (.region false [] [⟨some 3, .mov (.c (.bool false)), none⟩])
  .ret) .skip))))
  (.region false [] [⟨none, .bin false .add (.v 7) (.c (.int .i64 1)), none⟩, ⟨some 7, .mov (.r 0), none⟩])))))))
  (.seq (.region false [] [⟨some 3, .mov (.c (.bool true)), none⟩])
  .ret))),
  [.v 3]⟩
def ir_impl_GoodMark : IFun := ⟨[0, 1, 4],
  (.seq (.region false [] [⟨some 2, .mov (.c (.bool false)), none⟩])
  (.seq (.region false [] [⟨none, .mov (.v 0), none⟩, ⟨none, .call false f_impl_within [(.r 0), (.c (.int .i64 1)), (.c (.int .i64 16))], none⟩, ⟨none, .mov (.r 1), none⟩, ⟨none, .mov (.v 1), some (2, true)⟩, ⟨none, .len false (.r 3), some (2, true)⟩, ⟨none, .mov (.v 0), some (2, true)⟩, ⟨none, .bin false .eql (.r 4) (.r 5), some (2, true)⟩, ⟨none, .pick (.r 2) (.r 6) (.c (.bool false)), none⟩, ⟨none, .mov (.r 7), none⟩, ⟨none, .mov (.v 1), some (8, true)⟩, ⟨none, .call false f_impl_allWithin [(.r 9), (.c (.int .i64 0)), (.c (.int .i64 50))], some (8, true)⟩, ⟨none, .pick (.r 8) (.r 10) (.c (.bool false)), none⟩, ⟨some 2, .mov (.r 11), none⟩])
  .ret)),
  [.v 2]⟩
def ir_impl_areMarks_1 : IFun := ⟨[0, 1, 3],
  (.seq (.region false [] [⟨some 2, .mov (.c (.bool false)), none⟩])
  (.seq (.region false [] [⟨none, .load false 1 (.v 1), none⟩, ⟨none, .mov (.v 0), none⟩, ⟨none, .call false f_impl_GoodMark [(.r 0), (.r 1)], none⟩, ⟨none, .not (.r 2), none⟩, ⟨some 2, .mov (.r 3), none⟩])
  .ret)),
  [.v 2]⟩
def ir_slices_IndexFunc_sl_sl_int_sl_int : IFun := ⟨[0, 1, 4, 5, 7, 8, 9, 16],
  (.seq (.region false [] [⟨some 2, .mov (.c (.int .i64 0)), none⟩])
  (.seq (.seq (.region false [] [⟨none, .mov (.v 0), none⟩, ⟨some 4, .len false (.r 0), none⟩, ⟨some 5, .mov (.c (.int .i64 0)), none⟩])
  (.block 0 (.loop [true, true, false, false, true, true, false, false] (.seq (.region false [] [⟨some 6, .bin false .lss (.v 5) (.v 4), none⟩])
  (.seq (.cond (.v 6) .skip (.exit 0))
  (.seq (.block 1 (.seq (.region false [] [⟨none, .mov (.v 5), none⟩, ⟨some 3, .mov (.r 0), none⟩])
  (.seq (.region false [] [⟨none, .mov (.v 1), none⟩, ⟨none, .mov (.v 0), none⟩, ⟨none, .mov (.v 3), none⟩, ⟨none, .iaddr 1 (.r 1) (.r 2), none⟩, ⟨none, .load false 1 (.r 3), none⟩, ⟨some 7, .callv false (.r 0) [(.r 4)], none⟩])
  (.cond (.v 7) (.seq (.region false [] [⟨none, .mov (.v 3), none⟩, ⟨some 2, .mov (.r 0), none⟩])
  .ret) .skip))))
  (.region false [] [⟨none, .bin false .add (.v 5) (.c (.int .i64 1)), none⟩, ⟨some 5, .mov (.r 0), none⟩])))))))
  (.seq (.region false [] [⟨some 2, .mov (.c (.int .i64 (-1))), none⟩])
  .ret))),
  [.v 2]⟩
def ir_slices_ContainsFunc_sl_sl_int_sl_int : IFun := ⟨[0, 1, 4],
  (.seq (.region false [] [⟨some 2, .mov (.c (.bool false)), none⟩])
  (.seq (.region false [] [⟨none, .mov (.v 0), none⟩, ⟨none, .mov (.v 1), none⟩, ⟨none, .call false f_slices_IndexFunc_sl_sl_int_sl_int [(.r 0), (.r 1)], none⟩, ⟨none, .bin false .geq (.r 2) (.c (.int .i64 0)), none⟩, ⟨some 2, .mov (.r 3), none⟩])
  .ret)),
  [.v 2]⟩
def ir_impl_areMarks : IFun := ⟨[0, 1, 2, 4],
  (.seq (.region false [] [⟨some 2, .box t_int 1 (.v 0), none⟩, ⟨some 3, .mov (.c (.bool false)), none⟩])
  (.seq (.region false [] [⟨none, .mov (.v 1), none⟩, ⟨none, .mkfn f_impl_areMarks_1 [(.v 2)], none⟩, ⟨none, .call false f_slices_ContainsFunc_sl_sl_int_sl_int [(.r 0), (.r 1)], none⟩, ⟨none, .not (.r 2), none⟩, ⟨some 3, .mov (.r 3), none⟩])
  .ret)),
  [.v 3]⟩
def ir_impl_combined : IFun := ⟨[0, 1, 2, 6, 7, 8, 9, 13, 14, 15, 16],
  (.seq (.region false [] [⟨some 3, .nilrow t_int true 1, none⟩])
  (.seq (.region false [] [⟨none, .mov (.v 0), none⟩, ⟨none, .len false (.r 0), none⟩, ⟨none, .mk t_int true 1 (.int .i64 0) (.r 1), none⟩, ⟨some 4, .mov (.r 2), none⟩])
  (.seq (.seq (.region false [] [⟨some 7, .mov (.v 0), none⟩, ⟨some 8, .len false (.v 7), none⟩, ⟨some 9, .mov (.c (.int .i64 0)), none⟩])
  (.block 0 (.loop [false, true, true, false, true, false, false, true, true, true, false] (.seq (.region false [] [⟨some 10, .bin false .lss (.v 9) (.v 8), none⟩])
  (.seq (.cond (.v 10) .skip (.exit 0))
  (.seq (.block 1 (.seq (.region false [] [⟨none, .mov (.v 9), none⟩, ⟨none, .iaddr 1 (.v 7) (.v 9), none⟩, ⟨none, .load false 1 (.r 1), none⟩, ⟨some 5, .mov (.r 0), none⟩, ⟨some 6, .mov (.r 2), none⟩])
  (.region false [] [⟨none, .mov (.v 4), none⟩, ⟨none, .mov (.v 5), none⟩, ⟨none, .mov (.v 2), none⟩, ⟨none, .mov (.v 6), none⟩, ⟨none, .mov (.v 1), none⟩, ⟨none, .mov (.v 5), none⟩, ⟨none, .iaddr 1 (.r 4) (.r 5), none⟩, ⟨none, .load false 1 (.r 6), none⟩, ⟨none, .callv false (.r 2) [(.r 3), (.r 7)], none⟩, ⟨none, .iaddr 1 (.r 0) (.r 1), none⟩, ⟨none, .store 1 (.r 9) (.r 8), none⟩])))
  (.region false [] [⟨none, .bin false .add (.v 9) (.c (.int .i64 1)), none⟩, ⟨some 9, .mov (.r 0), none⟩])))))))
  (.seq (.region false [] [⟨none, .mov (.v 4), none⟩, ⟨some 3, .mov (.r 0), none⟩])
  .ret)))),
  [.v 3]⟩
def ir_impl_AddMarks_1 : IFun := ⟨[0, 1, 4],
  (.seq (.region false [] [⟨some 2, .mov (.c (.int .i64 0)), none⟩])
  (.seq (.region false [] [⟨none, .mov (.v 0), none⟩, ⟨none, .mov (.v 1), none⟩, ⟨none, .bin false .add (.r 0) (.r 1), none⟩, ⟨some 2, .mov (.r 2), none⟩])
  .ret)),
  [.v 2]⟩
def ir_impl_checkedMark : IFun := ⟨[0, 2, 3, 6],
  (.seq (.region false [] [⟨some 1, .nilrow t_int true 1, none⟩, ⟨some 2, .mov (.c (.bool false)), none⟩])
  (.seq (.seq (.region false [] [⟨none, .mov (.v 0), none⟩, ⟨none, .call false f_impl_allWithin [(.r 0), (.c (.int .i64 0)), (.c (.int .i64 50))], none⟩, ⟨some 3, .not (.r 1), none⟩])
  (.cond (.v 3) (.seq (.region false [] [⟨some 1, .nilrow t_int true 1, none⟩, ⟨some 2, .mov (.c (.bool false)), none⟩])
  .ret) .skip))
  (.seq (.region false [] [⟨none, .mov (.v 0), none⟩, ⟨some 1, .mov (.r 0), none⟩, ⟨some 2, .mov (.c (.bool true)), none⟩])
  .ret))),
  [.v 1, .v 2]⟩
def ir_impl_AddMarks : IFun := ⟨[0, 1, 2, 6, 7, 13],
  (.seq (.region false [] [⟨some 3, .nilrow t_int true 1, none⟩, ⟨some 4, .mov (.c (.bool false)), none⟩])
  (.seq (.seq (.region false [] [⟨none, .mov (.v 0), none⟩, ⟨none, .mov (.v 1), none⟩, ⟨none, .mov (.v 2), none⟩, ⟨none, .bslice false t_sl_int false 1 [(.r 1), (.r 2)], none⟩, ⟨none, .call false f_impl_areMarks [(.r 0), (.r 3)], none⟩, ⟨some 5, .not (.r 4), none⟩])
  (.cond (.v 5) (.seq (.region false [] [⟨some 3, .nilrow t_int true 1, none⟩, ⟨some 4, .mov (.c (.bool false)), none⟩])
  .ret) .skip))
  (.seq (.region false [] [⟨none, .mov (.v 1), none⟩, ⟨none, .mov (.v 2), none⟩, ⟨none, .call false f_impl_combined [(.r 0), (.r 1), (.c (.clo f_impl_AddMarks_1 []))], none⟩, ⟨none, .call false f_impl_checkedMark [(.r 2)], none⟩, ⟨none, .extract (.r 3) 0, none⟩, ⟨none, .extract (.r 3) 1, none⟩, ⟨some 3, .mov (.r 4), none⟩, ⟨some 4, .mov (.r 5), none⟩])
  .ret))),
  [.v 3, .v 4]⟩
def ir_spec_l1In : IFun := ⟨[0, 1, 2, 6],
  (.seq (.region false [] [⟨some 3, .mov (.c (.bool false)), none⟩])
  (.seq (.region false [] [⟨none, .mov (.v 0), none⟩, ⟨none, .mov (.v 1), none⟩, ⟨none, .bin false .geq (.r 0) (.r 1), none⟩, ⟨none, .mov (.r 2), none⟩, ⟨none, .mov (.v 0), some (3, true)⟩, ⟨none, .mov (.v 2), some (3, true)⟩, ⟨none, .bin false .leq (.r 4) (.r 5), some (3, true)⟩, ⟨none, .pick (.r 3) (.r 6) (.c (.bool false)), none⟩, ⟨some 3, .mov (.r 7), none⟩])
  .ret)),
  [.v 3]⟩
def ir_spec_l1Places : IFun := ⟨[0, 2],
  (.seq (.region false [] [⟨some 1, .mov (.c (.bool false)), none⟩])
  (.seq (.region false [] [⟨none, .mov (.v 0), none⟩, ⟨none, .call false f_spec_l1In [(.r 0), (.c (.int .i64 1)), (.c (.int .i64 16))], none⟩, ⟨some 1, .mov (.r 1), none⟩])
  .ret)),
  [.v 1]⟩
def ir_spec_l1All : IFun := ⟨[0, 1, 2, 6, 8, 9, 10, 11, 12, 19],
  (.seq (.region false [] [⟨some 3, .mov (.c (.bool false)), none⟩])
  (.seq (.seq (.region false [] [⟨some 5, .mov (.v 0), none⟩, ⟨some 6, .len false (.v 5), none⟩, ⟨some 7, .mov (.c (.int .i64 0)), none⟩])
  (.block 0 (.loop [false, true, true, false, false, true, true, true, false, false] (.seq (.region false [] [⟨some 8, .bin false .lss (.v 7) (.v 6), none⟩])
  (.seq (.cond (.v 8) .skip (.exit 0))
  (.seq (.block 1 (.seq (.region false [] [⟨none, .iaddr 1 (.v 5) (.v 7), none⟩, ⟨none, .load false 1 (.r 0), none⟩, ⟨some 4, .mov (.r 1), none⟩])
  (.seq (.region false [] [⟨none, .mov (.v 4), none⟩, ⟨none, .mov (.v 1), none⟩, ⟨none, .mov (.v 2), none⟩, ⟨none, .call false f_spec_l1In [(.r 0), (.r 1), (.r 2)], none⟩, ⟨some 9, .not (.r 3), none⟩])
  (.cond (.v 9) (.seq (.region false [] [⟨some 3, .mov (.c (.bool false)), none⟩])
  .ret) .skip))))
  (.region false [] [⟨none, .bin false .add (.v 7) (.c (.int .i64 1)), none⟩, ⟨some 7, .mov (.r 0), none⟩])))))))
  (.seq (.region false [] [⟨some 3, .mov (.c (.bool true)), none⟩])
  .ret))),
  [.v 3]⟩
def ir_spec_GoodMark : IFun := ⟨[0, 1, 4],
  (.seq (.region false [] [⟨some 2, .mov (.c (.bool false)), none⟩])
  (.seq (.region false [] [⟨none, .mov (.v 0), none⟩, ⟨none, .call false f_spec_l1Places [(.r 0)], none⟩, ⟨none, .mov (.r 1), none⟩, ⟨none, .mov (.v 1), some (2, true)⟩, ⟨none, .len false (.r 3), some (2, true)⟩, ⟨none, .mov (.v 0), some (2, true)⟩, ⟨none, .bin false .eql (.r 4) (.r 5), some (2, true)⟩, ⟨none, .pick (.r 2) (.r 6) (.c (.bool false)), none⟩, ⟨none, .mov (.r 7), none⟩, ⟨none, .mov (.v 1), some (8, true)⟩, ⟨none, .call false f_spec_l1All [(.r 9), (.c (.int .i64 0)), (.c (.int .i64 50))], some (8, true)⟩, ⟨none, .pick (.r 8) (.r 10) (.c (.bool false)), none⟩, ⟨some 2, .mov (.r 11), none⟩])
  .ret)),
  [.v 2]⟩
def ir_spec_l1Two : IFun := ⟨[0, 1, 2, 6],
  (.seq (.region false [] [⟨some 3, .mov (.c (.bool false)), none⟩])
  (.seq (.region false [] [⟨none, .mov (.v 0), none⟩, ⟨none, .mov (.v 1), none⟩, ⟨none, .call false f_spec_GoodMark [(.r 0), (.r 1)], none⟩, ⟨none, .mov (.r 2), none⟩, ⟨none, .mov (.v 0), some (3, true)⟩, ⟨none, .mov (.v 2), some (3, true)⟩, ⟨none, .call false f_spec_GoodMark [(.r 4), (.r 5)], some (3, true)⟩, ⟨none, .pick (.r 3) (.r 6) (.c (.bool false)), none⟩, ⟨some 3, .mov (.r 7), none⟩])
  .ret)),
  [.v 3]⟩
def ir_spec_AddMarks : IFun := ⟨[0, 1, 2, 6, 7, 8, 9, 14, 16, 17, 18, 36],
  (.seq (.region false [] [⟨some 3, .nilrow t_int true 1, none⟩, ⟨some 4, .mov (.c (.bool false)), none⟩])
  (.seq (.seq (.region false [] [⟨none, .mov (.v 0), none⟩, ⟨none, .mov (.v 1), none⟩, ⟨none, .mov (.v 2), none⟩, ⟨none, .call false f_spec_l1Two [(.r 0), (.r 1), (.r 2)], none⟩, ⟨some 7, .not (.r 3), none⟩])
  (.cond (.v 7) (.seq (.region false [] [⟨some 3, .nilrow t_int true 1, none⟩, ⟨some 4, .mov (.c (.bool false)), none⟩])
  .ret) .skip))
  (.seq (.region false [] [⟨some 5, .nilrow t_int true 1, none⟩])
  (.seq (.seq (.region false [] [⟨none, .mov (.v 1), none⟩, ⟨some 8, .len false (.r 0), none⟩, ⟨some 9, .mov (.c (.int .i64 0)), none⟩])
  (.block 0 (.loop [true, true, true, false, false, true, false, false, true, true, false, false] (.seq (.region false [] [⟨some 10, .bin false .lss (.v 9) (.v 8), none⟩])
  (.seq (.cond (.v 10) .skip (.exit 0))
  (.seq (.block 1 (.seq (.region false [] [⟨none, .mov (.v 9), none⟩, ⟨some 6, .mov (.r 0), none⟩])
  (.region true [] [⟨none, .mov (.v 5), none⟩, ⟨none, .mov (.v 1), none⟩, ⟨none, .mov (.v 6), none⟩, ⟨none, .iaddr 1 (.r 1) (.r 2), none⟩, ⟨none, .load false 1 (.r 3), none⟩, ⟨none, .mov (.v 2), none⟩, ⟨none, .mov (.v 6), none⟩, ⟨none, .iaddr 1 (.r 5) (.r 6), none⟩, ⟨none, .load false 1 (.r 7), none⟩, ⟨none, .bin false .add (.r 4) (.r 8), none⟩, ⟨none, .bslice false t_int true 1 [(.r 9)], none⟩, ⟨none, .append t_int true 1 (.r 0) (.r 10), none⟩, ⟨some 5, .mov (.r 11), none⟩])))
  (.region false [] [⟨none, .bin false .add (.v 9) (.c (.int .i64 1)), none⟩, ⟨some 9, .mov (.r 0), none⟩])))))))
  (.seq (.seq (.region false [] [⟨none, .mov (.v 0), none⟩, ⟨none, .mov (.v 5), none⟩, ⟨none, .call false f_spec_GoodMark [(.r 0), (.r 1)], none⟩, ⟨some 11, .not (.r 2), none⟩])
  (.cond (.v 11) (.seq (.region false [] [⟨some 3, .nilrow t_int true 1, none⟩, ⟨some 4, .mov (.c (.bool false)), none⟩])
  .ret) .skip))
  (.seq (.region false [] [⟨none, .mov (.v 5), none⟩, ⟨some 3, .mov (.r 0), none⟩, ⟨some 4, .mov (.c (.bool true)), none⟩])
  .ret)))))),
  [.v 3, .v 4]⟩
def ir_impl_covers : IFun := ⟨[0, 1, 4, 5, 6, 7, 8, 9, 10, 19],
  (.seq (.region false [] [⟨some 2, .mov (.c (.bool false)), none⟩])
  (.seq (.seq (.region false [] [⟨some 5, .mov (.v 0), none⟩, ⟨some 6, .len false (.v 5), none⟩, ⟨some 7, .mov (.c (.int .i64 0)), none⟩])
  (.block 0 (.loop [false, true, false, false, false, true, true, true, false, false] (.seq (.region false [] [⟨some 8, .bin false .lss (.v 7) (.v 6), none⟩])
  (.seq (.cond (.v 8) .skip (.exit 0))
  (.seq (.block 1 (.seq (.region false [] [⟨none, .mov (.v 7), none⟩, ⟨none, .iaddr 1 (.v 5) (.v 7), none⟩, ⟨none, .load false 1 (.r 1), none⟩, ⟨some 3, .mov (.r 0), none⟩, ⟨some 4, .mov (.r 2), none⟩])
  (.seq (.region false [] [⟨none, .mov (.v 4), none⟩, ⟨none, .mov (.v 1), none⟩, ⟨none, .mov (.v 3), none⟩, ⟨none, .iaddr 1 (.r 1) (.r 2), none⟩, ⟨none, .load false 1 (.r 3), none⟩, ⟨some 9, .bin false .lss (.r 0) (.r 4), none⟩])
  (.cond (.v 9) (.seq (.region false [] [⟨some 2, .mov (.c (.bool false)), none⟩])
  .ret) .skip))))
  (.region false [] [⟨none, .bin false .add (.v 7) (.c (.int .i64 1)), none⟩, ⟨some 7, .mov (.r 0), none⟩])))))))
  (.seq (.region false [] [⟨some 2, .mov (.c (.bool true)), none⟩])
  .ret))),
  [.v 2]⟩
def ir_impl_Covers : IFun := ⟨[0, 1, 2, 6, 7, 13],
  (.seq (.region false [] [⟨some 3, .mov (.c (.bool false)), none⟩, ⟨some 4, .mov (.c (.bool false)), none⟩])
  (.seq (.seq (.region false [] [⟨none, .mov (.v 0), none⟩, ⟨none, .mov (.v 1), none⟩, ⟨none, .mov (.v 2), none⟩, ⟨none, .bslice false t_sl_int false 1 [(.r 1), (.r 2)], none⟩, ⟨none, .call false f_impl_areMarks [(.r 0), (.r 3)], none⟩, ⟨some 5, .not (.r 4), none⟩])
  (.cond (.v 5) (.seq (.region false [] [⟨some 3, .mov (.c (.bool false)), none⟩, ⟨some 4, .mov (.c (.bool false)), none⟩])
  .ret) .skip))
  (.seq (.region false [] [⟨none, .mov (.v 1), none⟩, ⟨none, .mov (.v 2), none⟩, ⟨none, .call false f_impl_covers [(.r 0), (.r 1)], none⟩, ⟨some 3, .mov (.r 2), none⟩, ⟨some 4, .mov (.c (.bool true)), none⟩])
  .ret))),
  [.v 3, .v 4]⟩
def ir_spec_l1Covers : IFun := ⟨[0, 1, 4, 5, 6, 7, 8, 9, 10, 19],
  (.seq (.region false [] [⟨some 2, .mov (.c (.bool false)), none⟩])
  (.seq (.seq (.region false [] [⟨some 5, .mov (.v 1), none⟩, ⟨some 6, .len false (.v 5), none⟩, ⟨some 7, .mov (.c (.int .i64 0)), none⟩])
  (.block 0 (.loop [true, false, false, false, false, true, true, true, false, false] (.seq (.region false [] [⟨some 8, .bin false .lss (.v 7) (.v 6), none⟩])
  (.seq (.cond (.v 8) .skip (.exit 0))
  (.seq (.block 1 (.seq (.region false [] [⟨none, .mov (.v 7), none⟩, ⟨none, .iaddr 1 (.v 5) (.v 7), none⟩, ⟨none, .load false 1 (.r 1), none⟩, ⟨some 3, .mov (.r 0), none⟩, ⟨some 4, .mov (.r 2), none⟩])
  (.seq (.region false [] [⟨none, .mov (.v 0), none⟩, ⟨none, .mov (.v 3), none⟩, ⟨none, .iaddr 1 (.r 0) (.r 1), none⟩, ⟨none, .load false 1 (.r 2), none⟩, ⟨none, .mov (.v 4), none⟩, ⟨some 9, .bin false .lss (.r 3) (.r 4), none⟩])
  (.cond (.v 9) (.seq (.region false [] [⟨some 2, .mov (.c (.bool false)), none⟩])
  .ret) .skip))))
  (.region false [] [⟨none, .bin false .add (.v 7) (.c (.int .i64 1)), none⟩, ⟨some 7, .mov (.r 0), none⟩])))))))
  (.seq (.region false [] [⟨some 2, .mov (.c (.bool true)), none⟩])
  .ret))),
  [.v 2]⟩
def ir_spec_Covers : IFun := ⟨[0, 1, 2, 6, 7, 12],
  (.seq (.region false [] [⟨some 3, .mov (.c (.bool false)), none⟩, ⟨some 4, .mov (.c (.bool false)), none⟩])
  (.seq (.seq (.region false [] [⟨none, .mov (.v 0), none⟩, ⟨none, .mov (.v 1), none⟩, ⟨none, .mov (.v 2), none⟩, ⟨none, .call false f_spec_l1Two [(.r 0), (.r 1), (.r 2)], none⟩, ⟨some 5, .not (.r 3), none⟩])
  (.cond (.v 5) (.seq (.region false [] [⟨some 3, .mov (.c (.bool false)), none⟩, ⟨some 4, .mov (.c (.bool false)), none⟩])
  .ret) .skip))
  (.seq (.region false [] [⟨none, .mov (.v 1), none⟩, ⟨none, .mov (.v 2), none⟩, ⟨none, .call false f_spec_l1Covers [(.r 0), (.r 1)], none⟩, ⟨some 3, .mov (.r 2), none⟩, ⟨some 4, .mov (.c (.bool true)), none⟩])
  .ret))),
  [.v 3, .v 4]⟩
def ir_impl_TakeMarks_1 : IFun := ⟨[0, 1, 4],
  (.seq (.region false [] [⟨some 2, .mov (.c (.int .i64 0)), none⟩])
  (.seq (.region false [] [⟨none, .mov (.v 0), none⟩, ⟨none, .mov (.v 1), none⟩, ⟨none, .bin false .sub (.r 0) (.r 1), none⟩, ⟨some 2, .mov (.r 2), none⟩])
  .ret)),
  [.v 2]⟩
def ir_impl_TakeMarks : IFun := ⟨[0, 1, 2, 6, 7, 13],
  (.seq (.region false [] [⟨some 3, .nilrow t_int true 1, none⟩, ⟨some 4, .mov (.c (.bool false)), none⟩])
  (.seq (.seq (.region false [] [⟨none, .mov (.v 0), none⟩, ⟨none, .mov (.v 1), none⟩, ⟨none, .mov (.v 2), none⟩, ⟨none, .bslice false t_sl_int false 1 [(.r 1), (.r 2)], none⟩, ⟨none, .call false f_impl_areMarks [(.r 0), (.r 3)], none⟩, ⟨some 5, .not (.r 4), none⟩])
  (.cond (.v 5) (.seq (.region false [] [⟨some 3, .nilrow t_int true 1, none⟩, ⟨some 4, .mov (.c (.bool false)), none⟩])
  .ret) .skip))
  (.seq (.region false [] [⟨none, .mov (.v 1), none⟩, ⟨none, .mov (.v 2), none⟩, ⟨none, .call false f_impl_combined [(.r 0), (.r 1), (.c (.clo f_impl_TakeMarks_1 []))], none⟩, ⟨none, .call false f_impl_checkedMark [(.r 2)], none⟩, ⟨none, .extract (.r 3) 0, none⟩, ⟨none, .extract (.r 3) 1, none⟩, ⟨some 3, .mov (.r 4), none⟩, ⟨some 4, .mov (.r 5), none⟩])
  .ret))),
  [.v 3, .v 4]⟩
def ir_spec_TakeMarks : IFun := ⟨[0, 1, 2, 6, 7, 8, 9, 20, 22, 23, 24],
  (.seq (.region false [] [⟨some 3, .nilrow t_int true 1, none⟩, ⟨some 4, .mov (.c (.bool false)), none⟩])
  (.seq (.seq (.region false [] [⟨none, .mov (.v 0), none⟩, ⟨none, .mov (.v 1), none⟩, ⟨none, .mov (.v 2), none⟩, ⟨none, .call false f_spec_l1Two [(.r 0), (.r 1), (.r 2)], none⟩, ⟨none, .not (.r 3), none⟩, ⟨none, .mov (.r 4), none⟩, ⟨none, .mov (.v 1), some (5, false)⟩, ⟨none, .mov (.v 2), some (5, false)⟩, ⟨none, .call false f_spec_l1Covers [(.r 6), (.r 7)], some (5, false)⟩, ⟨none, .not (.r 8), some (5, false)⟩, ⟨some 7, .pick (.r 5) (.c (.bool true)) (.r 9), none⟩])
  (.cond (.v 7) (.seq (.region false [] [⟨some 3, .nilrow t_int true 1, none⟩, ⟨some 4, .mov (.c (.bool false)), none⟩])
  .ret) .skip))
  (.seq (.region false [] [⟨some 5, .nilrow t_int true 1, none⟩])
  (.seq (.seq (.region false [] [⟨none, .mov (.v 1), none⟩, ⟨some 8, .len false (.r 0), none⟩, ⟨some 9, .mov (.c (.int .i64 0)), none⟩])
  (.block 0 (.loop [false, true, true, false, false, true, false, false, true, true, false] (.seq (.region false [] [⟨some 10, .bin false .lss (.v 9) (.v 8), none⟩])
  (.seq (.cond (.v 10) .skip (.exit 0))
  (.seq (.block 1 (.seq (.region false [] [⟨none, .mov (.v 9), none⟩, ⟨some 6, .mov (.r 0), none⟩])
  (.region true [] [⟨none, .mov (.v 5), none⟩, ⟨none, .mov (.v 1), none⟩, ⟨none, .mov (.v 6), none⟩, ⟨none, .iaddr 1 (.r 1) (.r 2), none⟩, ⟨none, .load false 1 (.r 3), none⟩, ⟨none, .mov (.v 2), none⟩, ⟨none, .mov (.v 6), none⟩, ⟨none, .iaddr 1 (.r 5) (.r 6), none⟩, ⟨none, .load false 1 (.r 7), none⟩, ⟨none, .bin false .sub (.r 4) (.r 8), none⟩, ⟨none, .bslice false t_int true 1 [(.r 9)], none⟩, ⟨none, .append t_int true 1 (.r 0) (.r 10), none⟩, ⟨some 5, .mov (.r 11), none⟩])))
  (.region false [] [⟨none, .bin false .add (.v 9) (.c (.int .i64 1)), none⟩, ⟨some 9, .mov (.r 0), none⟩])))))))
  (.seq (.region false [] [⟨none, .mov (.v 5), none⟩, ⟨some 3, .mov (.r 0), none⟩, ⟨some 4, .mov (.c (.bool true)), none⟩])
  .ret))))),
  [.v 3, .v 4]⟩
def ir_laws_sameInts : IFun := ⟨[0, 1, 4, 5, 10, 12, 13, 14, 24],
  (.seq (.region false [] [⟨some 2, .mov (.c (.bool false)), none⟩])
  (.seq (.seq (.region false [] [⟨none, .mov (.v 0), none⟩, ⟨none, .len false (.r 0), none⟩, ⟨none, .mov (.v 1), none⟩, ⟨none, .len false (.r 2), none⟩, ⟨some 4, .bin false .neq (.r 1) (.r 3), none⟩])
  (.cond (.v 4) (.seq (.region false [] [⟨some 2, .mov (.c (.bool false)), none⟩])
  .ret) .skip))
  (.seq (.seq (.region false [] [⟨none, .mov (.v 0), none⟩, ⟨some 5, .len false (.r 0), none⟩, ⟨some 6, .mov (.c (.int .i64 0)), none⟩])
  (.block 0 (.loop [true, true, false, false, false, true, true, false, false] (.seq (.region false [] [⟨some 7, .bin false .lss (.v 6) (.v 5), none⟩])
  (.seq (.cond (.v 7) .skip (.exit 0))
  (.seq (.block 1 (.seq (.region false [] [⟨none, .mov (.v 6), none⟩, ⟨some 3, .mov (.r 0), none⟩])
  (.seq (.region true [] [⟨none, .mov (.v 0), none⟩, ⟨none, .mov (.v 3), none⟩, ⟨none, .iaddr 1 (.r 0) (.r 1), none⟩, ⟨none, .load false 1 (.r 2), none⟩, ⟨none, .mov (.v 1), none⟩, ⟨none, .mov (.v 3), none⟩, ⟨none, .iaddr 1 (.r 4) (.r 5), none⟩, ⟨none, .load false 1 (.r 6), none⟩, ⟨some 8, .bin false .neq (.r 3) (.r 7), none⟩])
  (.cond (.v 8) (.seq (.region false [] [⟨some 2, .mov (.c (.bool false)), none⟩])
  .ret) .skip))))
  (.region false [] [⟨none, .bin false .add (.v 6) (.c (.int .i64 1)), none⟩, ⟨some 6, .mov (.r 0), none⟩])))))))
  (.seq (.region false [] [⟨some 2, .mov (.c (.bool true)), none⟩])
  .ret)))),
  [.v 2]⟩
def ir_impl_sumOf : IFun := ⟨[0, 2, 3, 5, 6, 7, 8, 9],
  (.seq (.region false [] [⟨some 1, .mov (.c (.int .i64 0)), none⟩])
  (.seq (.region false [] [⟨some 2, .mov (.c (.int .i64 0)), none⟩])
  (.seq (.seq (.region false [] [⟨some 4, .mov (.v 0), none⟩, ⟨some 5, .len false (.v 4), none⟩, ⟨some 6, .mov (.c (.int .i64 0)), none⟩])
  (.block 0 (.loop [false, false, true, false, true, true, true, false] (.seq (.region false [] [⟨some 7, .bin false .lss (.v 6) (.v 5), none⟩])
  (.seq (.cond (.v 7) .skip (.exit 0))
  (.seq (.block 1 (.seq (.region false [] [⟨none, .iaddr 1 (.v 4) (.v 6), none⟩, ⟨none, .load false 1 (.r 0), none⟩, ⟨some 3, .mov (.r 1), none⟩])
  (.region false [] [⟨none, .mov (.v 2), none⟩, ⟨none, .mov (.v 3), none⟩, ⟨none, .bin false .add (.r 0) (.r 1), none⟩, ⟨some 2, .mov (.r 2), none⟩])))
  (.region false [] [⟨none, .bin false .add (.v 6) (.c (.int .i64 1)), none⟩, ⟨some 6, .mov (.r 0), none⟩])))))))
  (.seq (.region false [] [⟨none, .mov (.v 2), none⟩, ⟨some 1, .mov (.r 0), none⟩])
  .ret)))),
  [.v 1]⟩
def ir_impl_TotalOf : IFun := ⟨[0, 1, 4, 5, 10],
  (.seq (.region false [] [⟨some 2, .mov (.c (.int .i64 0)), none⟩, ⟨some 3, .mov (.c (.bool false)), none⟩])
  (.seq (.seq (.region false [] [⟨none, .mov (.v 0), none⟩, ⟨none, .mov (.v 1), none⟩, ⟨none, .bslice false t_sl_int false 1 [(.r 1)], none⟩, ⟨none, .call false f_impl_areMarks [(.r 0), (.r 2)], none⟩, ⟨some 4, .not (.r 3), none⟩])
  (.cond (.v 4) (.seq (.region false [] [⟨some 2, .mov (.c (.int .i64 0)), none⟩, ⟨some 3, .mov (.c (.bool false)), none⟩])
  .ret) .skip))
  (.seq (.region false [] [⟨none, .mov (.v 1), none⟩, ⟨none, .call false f_impl_sumOf [(.r 0)], none⟩, ⟨some 2, .mov (.r 1), none⟩, ⟨some 3, .mov (.c (.bool true)), none⟩])
  .ret))),
  [.v 2, .v 3]⟩
def ir_spec_DrawGoodMark : IFun := ⟨[0, 2, 3, 4, 5],
  (.seq (.region false [] [⟨some 1, .mov (.c (.int .i64 0)), none⟩, ⟨some 2, .nilrow t_int true 1, none⟩])
  (.seq (.region false [] [⟨none, .mov (.v 0), none⟩, ⟨none, .build [(.nil true 1), (.int .i64 0), (.int .u64 0)] [(0, 1, (.r 0))], none⟩, ⟨none, .box t_spec_l1Cur 3 (.r 1), none⟩, ⟨some 3, .mov (.r 2), none⟩])
  (.seq (.region false [] [⟨none, .mov (.v 3), none⟩, ⟨none, .callm f_spec_l1Cur_places [(.r 0)], none⟩, ⟨some 4, .mov (.r 1), none⟩])
  (.seq (.region false [] [⟨none, .mov (.v 4), none⟩, ⟨none, .mov (.v 3), none⟩, ⟨none, .mov (.v 4), none⟩, ⟨none, .callm f_spec_l1Cur_mark [(.r 1), (.r 2)], none⟩, ⟨some 1, .mov (.r 0), none⟩, ⟨some 2, .mov (.r 3), none⟩])
  .ret)))),
  [.v 1, .v 2]⟩
def ir_spec_DrawTotalOf : IFun := ⟨[0, 2, 3],
  (.seq (.region false [] [⟨some 1, .mov (.c (.int .i64 0)), none⟩, ⟨some 2, .nilrow t_int true 1, none⟩])
  (.seq (.region false [] [⟨none, .mov (.v 0), none⟩, ⟨none, .call false f_spec_DrawGoodMark [(.r 0)], none⟩, ⟨none, .extract (.r 1) 0, none⟩, ⟨none, .extract (.r 1) 1, none⟩, ⟨some 1, .mov (.r 2), none⟩, ⟨some 2, .mov (.r 3), none⟩])
  .ret)),
  [.v 1, .v 2]⟩
def ir_spec_l1Total : IFun := ⟨[0, 2, 3, 5, 6, 7, 8, 9],
  (.seq (.region false [] [⟨some 1, .mov (.c (.int .i64 0)), none⟩])
  (.seq (.region false [] [⟨some 2, .mov (.c (.int .i64 0)), none⟩])
  (.seq (.seq (.region false [] [⟨some 4, .mov (.v 0), none⟩, ⟨some 5, .len false (.v 4), none⟩, ⟨some 6, .mov (.c (.int .i64 0)), none⟩])
  (.block 0 (.loop [false, false, true, false, true, true, true, false] (.seq (.region false [] [⟨some 7, .bin false .lss (.v 6) (.v 5), none⟩])
  (.seq (.cond (.v 7) .skip (.exit 0))
  (.seq (.block 1 (.seq (.region false [] [⟨none, .iaddr 1 (.v 4) (.v 6), none⟩, ⟨none, .load false 1 (.r 0), none⟩, ⟨some 3, .mov (.r 1), none⟩])
  (.region false [] [⟨none, .mov (.v 2), none⟩, ⟨none, .mov (.v 3), none⟩, ⟨none, .bin false .add (.r 0) (.r 1), none⟩, ⟨some 2, .mov (.r 2), none⟩])))
  (.region false [] [⟨none, .bin false .add (.v 6) (.c (.int .i64 1)), none⟩, ⟨some 6, .mov (.r 0), none⟩])))))))
  (.seq (.region false [] [⟨none, .mov (.v 2), none⟩, ⟨some 1, .mov (.r 0), none⟩])
  .ret)))),
  [.v 1]⟩
def ir_spec_TotalOf : IFun := ⟨[0, 1, 4, 5, 9],
  (.seq (.region false [] [⟨some 2, .mov (.c (.int .i64 0)), none⟩, ⟨some 3, .mov (.c (.bool false)), none⟩])
  (.seq (.seq (.region false [] [⟨none, .mov (.v 0), none⟩, ⟨none, .mov (.v 1), none⟩, ⟨none, .call false f_spec_GoodMark [(.r 0), (.r 1)], none⟩, ⟨some 4, .not (.r 2), none⟩])
  (.cond (.v 4) (.seq (.region false [] [⟨some 2, .mov (.c (.int .i64 0)), none⟩, ⟨some 3, .mov (.c (.bool false)), none⟩])
  .ret) .skip))
  (.seq (.region false [] [⟨none, .mov (.v 1), none⟩, ⟨none, .call false f_spec_l1Total [(.r 0)], none⟩, ⟨some 2, .mov (.r 1), none⟩, ⟨some 3, .mov (.c (.bool true)), none⟩])
  .ret))),
  [.v 2, .v 3]⟩
def ir_laws_FnMarks : IFun := ⟨[0, 1, 4, 5, 6, 7, 8, 9, 10, 11, 12, 13, 14, 15, 16, 17, 18, 19, 20, 21, 22, 23, 24, 25, 26, 27, 28, 29, 30, 31, 32, 33, 34, 35, 38, 133, 134, 201],
  (.seq (.region false [] [⟨some 2, .mov (.c (.bool false)), none⟩])
  (.seq (.seq (.region false [] [⟨none, .mov (.v 0), none⟩, ⟨none, .mov (.v 1), none⟩, ⟨some 34, .call false f_laws_big [(.r 0), (.r 1)], none⟩])
  (.cond (.v 34) (.seq (.region false [] [⟨some 2, .mov (.c (.bool true)), none⟩])
  .ret) .skip))
  (.seq (.region false [] [⟨none, .mov (.v 0), none⟩, ⟨none, .call false f_spec_DrawAddMarks [(.r 0)], none⟩, ⟨none, .mov (.r 1), none⟩, ⟨none, .extract (.r 2) 0, none⟩, ⟨none, .extract (.r 2) 1, none⟩, ⟨none, .extract (.r 2) 2, none⟩, ⟨some 3, .mov (.r 3), none⟩, ⟨some 4, .mov (.r 4), none⟩, ⟨some 5, .mov (.r 5), none⟩])
  (.seq (.region false [] [⟨none, .mov (.v 3), none⟩, ⟨none, .mov (.v 4), none⟩, ⟨none, .mov (.v 5), none⟩, ⟨none, .call false f_impl_AddMarks [(.r 0), (.r 1), (.r 2)], none⟩, ⟨none, .mov (.r 3), none⟩, ⟨none, .extract (.r 4) 0, none⟩, ⟨none, .extract (.r 4) 1, none⟩, ⟨some 6, .mov (.r 5), none⟩, ⟨some 7, .mov (.r 6), none⟩])
  (.seq (.region false [] [⟨none, .mov (.v 3), none⟩, ⟨none, .mov (.v 4), none⟩, ⟨none, .mov (.v 5), none⟩, ⟨none, .call false f_spec_AddMarks [(.r 0), (.r 1), (.r 2)], none⟩, ⟨none, .mov (.r 3), none⟩, ⟨none, .extract (.r 4) 0, none⟩, ⟨none, .extract (.r 4) 1, none⟩, ⟨some 8, .mov (.r 5), none⟩, ⟨some 9, .mov (.r 6), none⟩])
  (.seq (.region false [] [⟨none, .mov (.v 3), none⟩, ⟨none, .mov (.v 4), none⟩, ⟨none, .mov (.v 5), none⟩, ⟨none, .call false f_impl_Covers [(.r 0), (.r 1), (.r 2)], none⟩, ⟨none, .mov (.r 3), none⟩, ⟨none, .extract (.r 4) 0, none⟩, ⟨none, .extract (.r 4) 1, none⟩, ⟨some 10, .mov (.r 5), none⟩, ⟨some 11, .mov (.r 6), none⟩])
  (.seq (.region false [] [⟨none, .mov (.v 3), none⟩, ⟨none, .mov (.v 4), none⟩, ⟨none, .mov (.v 5), none⟩, ⟨none, .call false f_spec_Covers [(.r 0), (.r 1), (.r 2)], none⟩, ⟨none, .mov (.r 3), none⟩, ⟨none, .extract (.r 4) 0, none⟩, ⟨none, .extract (.r 4) 1, none⟩, ⟨some 12, .mov (.r 5), none⟩, ⟨some 13, .mov (.r 6), none⟩])
  (.seq (.region false [] [⟨none, .mov (.v 3), none⟩, ⟨none, .mov (.v 4), none⟩, ⟨none, .mov (.v 5), none⟩, ⟨none, .call false f_impl_TakeMarks [(.r 0), (.r 1), (.r 2)], none⟩, ⟨none, .mov (.r 3), none⟩, ⟨none, .extract (.r 4) 0, none⟩, ⟨none, .extract (.r 4) 1, none⟩, ⟨some 14, .mov (.r 5), none⟩, ⟨some 15, .mov (.r 6), none⟩])
  (.seq (.region false [] [⟨none, .mov (.v 3), none⟩, ⟨none, .mov (.v 4), none⟩, ⟨none, .mov (.v 5), none⟩, ⟨none, .call false f_spec_TakeMarks [(.r 0), (.r 1), (.r 2)], none⟩, ⟨none, .mov (.r 3), none⟩, ⟨none, .extract (.r 4) 0, none⟩, ⟨none, .extract (.r 4) 1, none⟩, ⟨some 16, .mov (.r 5), none⟩, ⟨some 17, .mov (.r 6), none⟩])
  (.seq (.seq (.region false [] [⟨none, .mov (.v 7), none⟩, ⟨none, .mov (.v 9), none⟩, ⟨none, .bin true .neq (.r 0) (.r 1), none⟩, ⟨none, .mov (.r 2), none⟩, ⟨none, .mov (.v 6), some (3, false)⟩, ⟨none, .mov (.v 8), some (3, false)⟩, ⟨none, .call false f_laws_sameInts [(.r 4), (.r 5)], some (3, false)⟩, ⟨none, .not (.r 6), some (3, false)⟩, ⟨none, .pick (.r 3) (.c (.bool true)) (.r 7), none⟩, ⟨none, .mov (.r 8), none⟩, ⟨none, .mov (.v 11), some (9, false)⟩, ⟨none, .mov (.v 13), some (9, false)⟩, ⟨none, .bin true .neq (.r 10) (.r 11), some (9, false)⟩, ⟨none, .pick (.r 9) (.c (.bool true)) (.r 12), none⟩, ⟨none, .mov (.r 13), none⟩, ⟨none, .mov (.v 10), some (14, false)⟩, ⟨none, .mov (.v 12), some (14, false)⟩, ⟨none, .bin true .neq (.r 15) (.r 16), some (14, false)⟩, ⟨none, .pick (.r 14) (.c (.bool true)) (.r 17), none⟩, ⟨none, .mov (.r 18), none⟩, ⟨none, .mov (.v 15), some (19, false)⟩, ⟨none, .mov (.v 17), some (19, false)⟩, ⟨none, .bin true .neq (.r 20) (.r 21), some (19, false)⟩, ⟨none, .pick (.r 19) (.c (.bool true)) (.r 22), none⟩, ⟨none, .mov (.r 23), none⟩, ⟨none, .mov (.v 14), some (24, false)⟩, ⟨none, .mov (.v 16), some (24, false)⟩, ⟨none, .call false f_laws_sameInts [(.r 25), (.r 26)], some (24, false)⟩, ⟨none, .not (.r 27), some (24, false)⟩, ⟨none, .pick (.r 24) (.c (.bool true)) (.r 28), none⟩, ⟨none, .mov (.r 29), none⟩, ⟨none, .mov (.v 3), some (30, false)⟩, ⟨none, .mov (.v 4), some (30, false)⟩, ⟨none, .call false f_impl_GoodMark [(.r 31), (.r 32)], some (30, false)⟩, ⟨none, .mov (.v 3), some (30, false)⟩, ⟨none, .mov (.v 4), some (30, false)⟩, ⟨none, .call false f_spec_GoodMark [(.r 34), (.r 35)], some (30, false)⟩, ⟨none, .bin true .neq (.r 33) (.r 36), some (30, false)⟩, ⟨none, .pick (.r 30) (.c (.bool true)) (.r 37), none⟩, ⟨none, .mov (.r 38), none⟩, ⟨none, .mov (.v 15), some (39, false)⟩, ⟨none, .mov (.v 11), some (39, false)⟩, ⟨none, .mov (.r 41), some (39, false)⟩, ⟨none, .mov (.v 10), some (42, true)⟩, ⟨none, .pick (.r 42) (.r 43) (.c (.bool false)), some (39, false)⟩, ⟨none, .bin true .neq (.r 40) (.r 44), some (39, false)⟩, ⟨some 35, .pick (.r 39) (.c (.bool true)) (.r 45), none⟩])
  (.cond (.v 35) (.seq (.region false [] [⟨some 2, .mov (.c (.bool false)), none⟩])
  .ret) .skip))
  (.seq (.seq (.region false [] [⟨some 36, .mov (.v 7), none⟩])
  (.cond (.v 36) (.seq (.region false [] [⟨none, .mov (.v 3), none⟩, ⟨none, .mov (.v 6), none⟩, ⟨none, .mov (.v 5), none⟩, ⟨none, .call false f_impl_TakeMarks [(.r 0), (.r 1), (.r 2)], none⟩, ⟨none, .mov (.r 3), none⟩, ⟨none, .extract (.r 4) 0, none⟩, ⟨none, .extract (.r 4) 1, none⟩, ⟨some 18, .mov (.r 5), none⟩, ⟨some 19, .mov (.r 6), none⟩])
  (.seq (.region false [] [⟨none, .mov (.v 3), none⟩, ⟨none, .mov (.v 6), none⟩, ⟨none, .mov (.v 4), none⟩, ⟨none, .call false f_impl_Covers [(.r 0), (.r 1), (.r 2)], none⟩, ⟨none, .mov (.r 3), none⟩, ⟨none, .extract (.r 4) 0, none⟩, ⟨none, .extract (.r 4) 1, none⟩, ⟨some 20, .mov (.r 5), none⟩, ⟨some 21, .mov (.r 6), none⟩])
  (.seq (.region false [] [⟨none, .mov (.v 3), none⟩, ⟨none, .mov (.v 6), none⟩, ⟨none, .call false f_impl_TotalOf [(.r 0), (.r 1)], none⟩, ⟨none, .mov (.r 2), none⟩, ⟨none, .extract (.r 3) 0, none⟩, ⟨none, .extract (.r 3) 1, none⟩, ⟨some 22, .mov (.r 4), none⟩, ⟨some 23, .mov (.r 5), none⟩])
  (.seq (.region false [] [⟨none, .mov (.v 3), none⟩, ⟨none, .mov (.v 4), none⟩, ⟨none, .call false f_impl_TotalOf [(.r 0), (.r 1)], none⟩, ⟨none, .mov (.r 2), none⟩, ⟨none, .extract (.r 3) 0, none⟩, ⟨none, .extract (.r 3) 1, none⟩, ⟨some 24, .mov (.r 4), none⟩, ⟨some 25, .mov (.r 5), none⟩])
  (.seq (.region false [] [⟨none, .mov (.v 3), none⟩, ⟨none, .mov (.v 5), none⟩, ⟨none, .call false f_impl_TotalOf [(.r 0), (.r 1)], none⟩, ⟨none, .mov (.r 2), none⟩, ⟨none, .extract (.r 3) 0, none⟩, ⟨none, .extract (.r 3) 1, none⟩, ⟨some 26, .mov (.r 4), none⟩, ⟨some 27, .mov (.r 5), none⟩])
  (.seq (.region false [] [⟨none, .mov (.v 19), none⟩, ⟨none, .not (.r 0), none⟩, ⟨none, .mov (.r 1), none⟩, ⟨none, .mov (.v 18), some (2, false)⟩, ⟨none, .mov (.v 4), some (2, false)⟩, ⟨none, .call false f_laws_sameInts [(.r 3), (.r 4)], some (2, false)⟩, ⟨none, .not (.r 5), some (2, false)⟩, ⟨none, .pick (.r 2) (.c (.bool true)) (.r 6), none⟩, ⟨none, .mov (.r 7), none⟩, ⟨none, .mov (.v 21), some (8, false)⟩, ⟨none, .not (.r 9), some (8, false)⟩, ⟨none, .pick (.r 8) (.c (.bool true)) (.r 10), none⟩, ⟨none, .mov (.r 11), none⟩, ⟨none, .mov (.v 20), some (12, false)⟩, ⟨none, .not (.r 13), some (12, false)⟩, ⟨none, .pick (.r 12) (.c (.bool true)) (.r 14), none⟩, ⟨none, .mov (.r 15), none⟩, ⟨none, .mov (.v 23), some (16, false)⟩, ⟨none, .not (.r 17), some (16, false)⟩, ⟨none, .pick (.r 16) (.c (.bool true)) (.r 18), none⟩, ⟨none, .mov (.r 19), none⟩, ⟨none, .mov (.v 25), some (20, false)⟩, ⟨none, .not (.r 21), some (20, false)⟩, ⟨none, .pick (.r 20) (.c (.bool true)) (.r 22), none⟩, ⟨none, .mov (.r 23), none⟩, ⟨none, .mov (.v 27), some (24, false)⟩, ⟨none, .not (.r 25), some (24, false)⟩, ⟨none, .pick (.r 24) (.c (.bool true)) (.r 26), none⟩, ⟨none, .mov (.r 27), none⟩, ⟨none, .mov (.v 22), some (28, false)⟩, ⟨none, .mov (.v 24), some (28, false)⟩, ⟨none, .mov (.v 26), some (28, false)⟩, ⟨none, .bin false .add (.r 30) (.r 31), some (28, false)⟩, ⟨none, .bin false .neq (.r 29) (.r 32), some (28, false)⟩, ⟨some 37, .pick (.r 28) (.c (.bool true)) (.r 33), none⟩])
  (.cond (.v 37) (.seq (.region false [] [⟨some 2, .mov (.c (.bool false)), none⟩])
  .ret) .skip))))))) .skip))
  (.seq (.region false [] [⟨none, .mov (.v 1), none⟩, ⟨none, .call false f_spec_DrawTotalOf [(.r 0)], none⟩, ⟨none, .mov (.r 1), none⟩, ⟨none, .extract (.r 2) 0, none⟩, ⟨none, .extract (.r 2) 1, none⟩, ⟨some 28, .mov (.r 3), none⟩, ⟨some 29, .mov (.r 4), none⟩])
  (.seq (.region false [] [⟨none, .mov (.v 28), none⟩, ⟨none, .mov (.v 29), none⟩, ⟨none, .call false f_impl_TotalOf [(.r 0), (.r 1)], none⟩, ⟨none, .mov (.r 2), none⟩, ⟨none, .extract (.r 3) 0, none⟩, ⟨none, .extract (.r 3) 1, none⟩, ⟨some 30, .mov (.r 4), none⟩, ⟨some 31, .mov (.r 5), none⟩])
  (.seq (.region false [] [⟨none, .mov (.v 28), none⟩, ⟨none, .mov (.v 29), none⟩, ⟨none, .call false f_spec_TotalOf [(.r 0), (.r 1)], none⟩, ⟨none, .mov (.r 2), none⟩, ⟨none, .extract (.r 3) 0, none⟩, ⟨none, .extract (.r 3) 1, none⟩, ⟨some 32, .mov (.r 4), none⟩, ⟨some 33, .mov (.r 5), none⟩])
  (.seq (.region false [] [⟨none, .mov (.v 31), none⟩, ⟨none, .mov (.v 33), none⟩, ⟨none, .bin true .eql (.r 0) (.r 1), none⟩, ⟨none, .mov (.r 2), none⟩, ⟨none, .mov (.v 30), some (3, true)⟩, ⟨none, .mov (.v 32), some (3, true)⟩, ⟨none, .bin false .eql (.r 4) (.r 5), some (3, true)⟩, ⟨none, .pick (.r 3) (.r 6) (.c (.bool false)), none⟩, ⟨some 2, .mov (.r 7), none⟩])
  .ret))))))))))))))),
  [.v 2]⟩
def tbl : List (FuncId × IFun) := [(f_laws_big, ir_laws_big), (f_spec_l1Cur_next, ir_spec_l1Cur_next), (f_spec_l1Cur_pick, ir_spec_l1Cur_pick), (f_spec_l1Cur_among, ir_spec_l1Cur_among), (f_spec_l1Cur_places, ir_spec_l1Cur_places), (f_spec_l1Cur_one, ir_spec_l1Cur_one), (f_spec_l1Cur_mark, ir_spec_l1Cur_mark), (f_spec_DrawAddMarks, ir_spec_DrawAddMarks), (f_impl_within, ir_impl_within), (f_impl_allWithin, ir_impl_allWithin), (f_impl_GoodMark, ir_impl_GoodMark), (f_impl_areMarks_1, ir_impl_areMarks_1), (f_slices_IndexFunc_sl_sl_int_sl_int, ir_slices_IndexFunc_sl_sl_int_sl_int), (f_slices_ContainsFunc_sl_sl_int_sl_int, ir_slices_ContainsFunc_sl_sl_int_sl_int), (f_impl_areMarks, ir_impl_areMarks), (f_impl_combined, ir_impl_combined), (f_impl_AddMarks_1, ir_impl_AddMarks_1), (f_impl_checkedMark, ir_impl_checkedMark), (f_impl_AddMarks, ir_impl_AddMarks), (f_spec_l1In, ir_spec_l1In), (f_spec_l1Places, ir_spec_l1Places), (f_spec_l1All, ir_spec_l1All), (f_spec_GoodMark, ir_spec_GoodMark), (f_spec_l1Two, ir_spec_l1Two), (f_spec_AddMarks, ir_spec_AddMarks), (f_impl_covers, ir_impl_covers), (f_impl_Covers, ir_impl_Covers), (f_spec_l1Covers, ir_spec_l1Covers), (f_spec_Covers, ir_spec_Covers), (f_impl_TakeMarks_1, ir_impl_TakeMarks_1), (f_impl_TakeMarks, ir_impl_TakeMarks), (f_spec_TakeMarks, ir_spec_TakeMarks), (f_laws_sameInts, ir_laws_sameInts), (f_impl_sumOf, ir_impl_sumOf), (f_impl_TotalOf, ir_impl_TotalOf), (f_spec_DrawGoodMark, ir_spec_DrawGoodMark), (f_spec_DrawTotalOf, ir_spec_DrawTotalOf), (f_spec_l1Total, ir_spec_l1Total), (f_spec_TotalOf, ir_spec_TotalOf), (f_laws_FnMarks, ir_laws_FnMarks)]
def F (f : FuncId) : Option IFun := (tbl.find? fun p => p.1 == f).map (·.2)
def exts : List (FuncId × (List PV → Option PV)) := []
def ext (f : FuncId) : Option (List PV → Option PV) := (exts.find? fun p => p.1 == f).map (·.2)
noncomputable def C : Orc := lim F ext
theorem E_laws_big {args : List PV} {M : List Blk} {P : PV × List Blk → Prop} (h : W C M.length ir_laws_big.body ⟨start ir_laws_big args, M⟩ (Le' M.length ir_laws_big.results P)) : Lw (C f_laws_big args M) P := call_ex rfl rfl h
theorem C_laws_big {args : List PV} {M : List Blk} {r : PV × List Blk} (h : W C M.length ir_laws_big.body ⟨start ir_laws_big args, M⟩ (Lv M.length ir_laws_big.results r)) : C f_laws_big args M = some r := call_of rfl rfl h
theorem E_spec_l1Cur_next {args : List PV} {M : List Blk} {P : PV × List Blk → Prop} (h : W C M.length ir_spec_l1Cur_next.body ⟨start ir_spec_l1Cur_next args, M⟩ (Le' M.length ir_spec_l1Cur_next.results P)) : Lw (C f_spec_l1Cur_next args M) P := call_ex rfl rfl h
theorem C_spec_l1Cur_next {args : List PV} {M : List Blk} {r : PV × List Blk} (h : W C M.length ir_spec_l1Cur_next.body ⟨start ir_spec_l1Cur_next args, M⟩ (Lv M.length ir_spec_l1Cur_next.results r)) : C f_spec_l1Cur_next args M = some r := call_of rfl rfl h
theorem E_spec_l1Cur_pick {args : List PV} {M : List Blk} {P : PV × List Blk → Prop} (h : W C M.length ir_spec_l1Cur_pick.body ⟨start ir_spec_l1Cur_pick args, M⟩ (Le' M.length ir_spec_l1Cur_pick.results P)) : Lw (C f_spec_l1Cur_pick args M) P := call_ex rfl rfl h
theorem C_spec_l1Cur_pick {args : List PV} {M : List Blk} {r : PV × List Blk} (h : W C M.length ir_spec_l1Cur_pick.body ⟨start ir_spec_l1Cur_pick args, M⟩ (Lv M.length ir_spec_l1Cur_pick.results r)) : C f_spec_l1Cur_pick args M = some r := call_of rfl rfl h
theorem E_spec_l1Cur_among {args : List PV} {M : List Blk} {P : PV × List Blk → Prop} (h : W C M.length ir_spec_l1Cur_among.body ⟨start ir_spec_l1Cur_among args, M⟩ (Le' M.length ir_spec_l1Cur_among.results P)) : Lw (C f_spec_l1Cur_among args M) P := call_ex rfl rfl h
theorem C_spec_l1Cur_among {args : List PV} {M : List Blk} {r : PV × List Blk} (h : W C M.length ir_spec_l1Cur_among.body ⟨start ir_spec_l1Cur_among args, M⟩ (Lv M.length ir_spec_l1Cur_among.results r)) : C f_spec_l1Cur_among args M = some r := call_of rfl rfl h
theorem E_spec_l1Cur_places {args : List PV} {M : List Blk} {P : PV × List Blk → Prop} (h : W C M.length ir_spec_l1Cur_places.body ⟨start ir_spec_l1Cur_places args, M⟩ (Le' M.length ir_spec_l1Cur_places.results P)) : Lw (C f_spec_l1Cur_places args M) P := call_ex rfl rfl h
theorem C_spec_l1Cur_places {args : List PV} {M : List Blk} {r : PV × List Blk} (h : W C M.length ir_spec_l1Cur_places.body ⟨start ir_spec_l1Cur_places args, M⟩ (Lv M.length ir_spec_l1Cur_places.results r)) : C f_spec_l1Cur_places args M = some r := call_of rfl rfl h
theorem E_spec_l1Cur_one {args : List PV} {M : List Blk} {P : PV × List Blk → Prop} (h : W C M.length ir_spec_l1Cur_one.body ⟨start ir_spec_l1Cur_one args, M⟩ (Le' M.length ir_spec_l1Cur_one.results P)) : Lw (C f_spec_l1Cur_one args M) P := call_ex rfl rfl h
theorem C_spec_l1Cur_one {args : List PV} {M : List Blk} {r : PV × List Blk} (h : W C M.length ir_spec_l1Cur_one.body ⟨start ir_spec_l1Cur_one args, M⟩ (Lv M.length ir_spec_l1Cur_one.results r)) : C f_spec_l1Cur_one args M = some r := call_of rfl rfl h
theorem E_spec_l1Cur_mark {args : List PV} {M : List Blk} {P : PV × List Blk → Prop} (h : W C M.length ir_spec_l1Cur_mark.body ⟨start ir_spec_l1Cur_mark args, M⟩ (Le' M.length ir_spec_l1Cur_mark.results P)) : Lw (C f_spec_l1Cur_mark args M) P := call_ex rfl rfl h
theorem C_spec_l1Cur_mark {args : List PV} {M : List Blk} {r : PV × List Blk} (h : W C M.length ir_spec_l1Cur_mark.body ⟨start ir_spec_l1Cur_mark args, M⟩ (Lv M.length ir_spec_l1Cur_mark.results r)) : C f_spec_l1Cur_mark args M = some r := call_of rfl rfl h
theorem E_spec_DrawAddMarks {args : List PV} {M : List Blk} {P : PV × List Blk → Prop} (h : W C M.length ir_spec_DrawAddMarks.body ⟨start ir_spec_DrawAddMarks args, M⟩ (Le' M.length ir_spec_DrawAddMarks.results P)) : Lw (C f_spec_DrawAddMarks args M) P := call_ex rfl rfl h
theorem C_spec_DrawAddMarks {args : List PV} {M : List Blk} {r : PV × List Blk} (h : W C M.length ir_spec_DrawAddMarks.body ⟨start ir_spec_DrawAddMarks args, M⟩ (Lv M.length ir_spec_DrawAddMarks.results r)) : C f_spec_DrawAddMarks args M = some r := call_of rfl rfl h
theorem E_impl_within {args : List PV} {M : List Blk} {P : PV × List Blk → Prop} (h : W C M.length ir_impl_within.body ⟨start ir_impl_within args, M⟩ (Le' M.length ir_impl_within.results P)) : Lw (C f_impl_within args M) P := call_ex rfl rfl h
theorem C_impl_within {args : List PV} {M : List Blk} {r : PV × List Blk} (h : W C M.length ir_impl_within.body ⟨start ir_impl_within args, M⟩ (Lv M.length ir_impl_within.results r)) : C f_impl_within args M = some r := call_of rfl rfl h
theorem E_impl_allWithin {args : List PV} {M : List Blk} {P : PV × List Blk → Prop} (h : W C M.length ir_impl_allWithin.body ⟨start ir_impl_allWithin args, M⟩ (Le' M.length ir_impl_allWithin.results P)) : Lw (C f_impl_allWithin args M) P := call_ex rfl rfl h
theorem C_impl_allWithin {args : List PV} {M : List Blk} {r : PV × List Blk} (h : W C M.length ir_impl_allWithin.body ⟨start ir_impl_allWithin args, M⟩ (Lv M.length ir_impl_allWithin.results r)) : C f_impl_allWithin args M = some r := call_of rfl rfl h
theorem E_impl_GoodMark {args : List PV} {M : List Blk} {P : PV × List Blk → Prop} (h : W C M.length ir_impl_GoodMark.body ⟨start ir_impl_GoodMark args, M⟩ (Le' M.length ir_impl_GoodMark.results P)) : Lw (C f_impl_GoodMark args M) P := call_ex rfl rfl h
theorem C_impl_GoodMark {args : List PV} {M : List Blk} {r : PV × List Blk} (h : W C M.length ir_impl_GoodMark.body ⟨start ir_impl_GoodMark args, M⟩ (Lv M.length ir_impl_GoodMark.results r)) : C f_impl_GoodMark args M = some r := call_of rfl rfl h
theorem E_impl_areMarks_1 {args : List PV} {M : List Blk} {P : PV × List Blk → Prop} (h : W C M.length ir_impl_areMarks_1.body ⟨start ir_impl_areMarks_1 args, M⟩ (Le' M.length ir_impl_areMarks_1.results P)) : Lw (C f_impl_areMarks_1 args M) P := call_ex rfl rfl h
theorem C_impl_areMarks_1 {args : List PV} {M : List Blk} {r : PV × List Blk} (h : W C M.length ir_impl_areMarks_1.body ⟨start ir_impl_areMarks_1 args, M⟩ (Lv M.length ir_impl_areMarks_1.results r)) : C f_impl_areMarks_1 args M = some r := call_of rfl rfl h
theorem E_slices_IndexFunc_sl_sl_int_sl_int {args : List PV} {M : List Blk} {P : PV × List Blk → Prop} (h : W C M.length ir_slices_IndexFunc_sl_sl_int_sl_int.body ⟨start ir_slices_IndexFunc_sl_sl_int_sl_int args, M⟩ (Le' M.length ir_slices_IndexFunc_sl_sl_int_sl_int.results P)) : Lw (C f_slices_IndexFunc_sl_sl_int_sl_int args M) P := call_ex rfl rfl h
theorem C_slices_IndexFunc_sl_sl_int_sl_int {args : List PV} {M : List Blk} {r : PV × List Blk} (h : W C M.length ir_slices_IndexFunc_sl_sl_int_sl_int.body ⟨start ir_slices_IndexFunc_sl_sl_int_sl_int args, M⟩ (Lv M.length ir_slices_IndexFunc_sl_sl_int_sl_int.results r)) : C f_slices_IndexFunc_sl_sl_int_sl_int args M = some r := call_of rfl rfl h
theorem E_slices_ContainsFunc_sl_sl_int_sl_int {args : List PV} {M : List Blk} {P : PV × List Blk → Prop} (h : W C M.length ir_slices_ContainsFunc_sl_sl_int_sl_int.body ⟨start ir_slices_ContainsFunc_sl_sl_int_sl_int args, M⟩ (Le' M.length ir_slices_ContainsFunc_sl_sl_int_sl_int.results P)) : Lw (C f_slices_ContainsFunc_sl_sl_int_sl_int args M) P := call_ex rfl rfl h
theorem C_slices_ContainsFunc_sl_sl_int_sl_int {args : List PV} {M : List Blk} {r : PV × List Blk} (h : W C M.length ir_slices_ContainsFunc_sl_sl_int_sl_int.body ⟨start ir_slices_ContainsFunc_sl_sl_int_sl_int args, M⟩ (Lv M.length ir_slices_ContainsFunc_sl_sl_int_sl_int.results r)) : C f_slices_ContainsFunc_sl_sl_int_sl_int args M = some r := call_of rfl rfl h
theorem E_impl_areMarks {args : List PV} {M : List Blk} {P : PV × List Blk → Prop} (h : W C M.length ir_impl_areMarks.body ⟨start ir_impl_areMarks args, M⟩ (Le' M.length ir_impl_areMarks.results P)) : Lw (C f_impl_areMarks args M) P := call_ex rfl rfl h
theorem C_impl_areMarks {args : List PV} {M : List Blk} {r : PV × List Blk} (h : W C M.length ir_impl_areMarks.body ⟨start ir_impl_areMarks args, M⟩ (Lv M.length ir_impl_areMarks.results r)) : C f_impl_areMarks args M = some r := call_of rfl rfl h
theorem E_impl_combined {args : List PV} {M : List Blk} {P : PV × List Blk → Prop} (h : W C M.length ir_impl_combined.body ⟨start ir_impl_combined args, M⟩ (Le' M.length ir_impl_combined.results P)) : Lw (C f_impl_combined args M) P := call_ex rfl rfl h
theorem C_impl_combined {args : List PV} {M : List Blk} {r : PV × List Blk} (h : W C M.length ir_impl_combined.body ⟨start ir_impl_combined args, M⟩ (Lv M.length ir_impl_combined.results r)) : C f_impl_combined args M = some r := call_of rfl rfl h
theorem E_impl_AddMarks_1 {args : List PV} {M : List Blk} {P : PV × List Blk → Prop} (h : W C M.length ir_impl_AddMarks_1.body ⟨start ir_impl_AddMarks_1 args, M⟩ (Le' M.length ir_impl_AddMarks_1.results P)) : Lw (C f_impl_AddMarks_1 args M) P := call_ex rfl rfl h
theorem C_impl_AddMarks_1 {args : List PV} {M : List Blk} {r : PV × List Blk} (h : W C M.length ir_impl_AddMarks_1.body ⟨start ir_impl_AddMarks_1 args, M⟩ (Lv M.length ir_impl_AddMarks_1.results r)) : C f_impl_AddMarks_1 args M = some r := call_of rfl rfl h
theorem E_impl_checkedMark {args : List PV} {M : List Blk} {P : PV × List Blk → Prop} (h : W C M.length ir_impl_checkedMark.body ⟨start ir_impl_checkedMark args, M⟩ (Le' M.length ir_impl_checkedMark.results P)) : Lw (C f_impl_checkedMark args M) P := call_ex rfl rfl h
theorem C_impl_checkedMark {args : List PV} {M : List Blk} {r : PV × List Blk} (h : W C M.length ir_impl_checkedMark.body ⟨start ir_impl_checkedMark args, M⟩ (Lv M.length ir_impl_checkedMark.results r)) : C f_impl_checkedMark args M = some r := call_of rfl rfl h
theorem E_impl_AddMarks {args : List PV} {M : List Blk} {P : PV × List Blk → Prop} (h : W C M.length ir_impl_AddMarks.body ⟨start ir_impl_AddMarks args, M⟩ (Le' M.length ir_impl_AddMarks.results P)) : Lw (C f_impl_AddMarks args M) P := call_ex rfl rfl h
theorem C_impl_AddMarks {args : List PV} {M : List Blk} {r : PV × List Blk} (h : W C M.length ir_impl_AddMarks.body ⟨start ir_impl_AddMarks args, M⟩ (Lv M.length ir_impl_AddMarks.results r)) : C f_impl_AddMarks args M = some r := call_of rfl rfl h
theorem E_spec_l1In {args : List PV} {M : List Blk} {P : PV × List Blk → Prop} (h : W C M.length ir_spec_l1In.body ⟨start ir_spec_l1In args, M⟩ (Le' M.length ir_spec_l1In.results P)) : Lw (C f_spec_l1In args M) P := call_ex rfl rfl h
theorem C_spec_l1In {args : List PV} {M : List Blk} {r : PV × List Blk} (h : W C M.length ir_spec_l1In.body ⟨start ir_spec_l1In args, M⟩ (Lv M.length ir_spec_l1In.results r)) : C f_spec_l1In args M = some r := call_of rfl rfl h
theorem E_spec_l1Places {args : List PV} {M : List Blk} {P : PV × List Blk → Prop} (h : W C M.length ir_spec_l1Places.body ⟨start ir_spec_l1Places args, M⟩ (Le' M.length ir_spec_l1Places.results P)) : Lw (C f_spec_l1Places args M) P := call_ex rfl rfl h
theorem C_spec_l1Places {args : List PV} {M : List Blk} {r : PV × List Blk} (h : W C M.length ir_spec_l1Places.body ⟨start ir_spec_l1Places args, M⟩ (Lv M.length ir_spec_l1Places.results r)) : C f_spec_l1Places args M = some r := call_of rfl rfl h
theorem E_spec_l1All {args : List PV} {M : List Blk} {P : PV × List Blk → Prop} (h : W C M.length ir_spec_l1All.body ⟨start ir_spec_l1All args, M⟩ (Le' M.length ir_spec_l1All.results P)) : Lw (C f_spec_l1All args M) P := call_ex rfl rfl h
theorem C_spec_l1All {args : List PV} {M : List Blk} {r : PV × List Blk} (h : W C M.length ir_spec_l1All.body ⟨start ir_spec_l1All args, M⟩ (Lv M.length ir_spec_l1All.results r)) : C f_spec_l1All args M = some r := call_of rfl rfl h
theorem E_spec_GoodMark {args : List PV} {M : List Blk} {P : PV × List Blk → Prop} (h : W C M.length ir_spec_GoodMark.body ⟨start ir_spec_GoodMark args, M⟩ (Le' M.length ir_spec_GoodMark.results P)) : Lw (C f_spec_GoodMark args M) P := call_ex rfl rfl h
theorem C_spec_GoodMark {args : List PV} {M : List Blk} {r : PV × List Blk} (h : W C M.length ir_spec_GoodMark.body ⟨start ir_spec_GoodMark args, M⟩ (Lv M.length ir_spec_GoodMark.results r)) : C f_spec_GoodMark args M = some r := call_of rfl rfl h
theorem E_spec_l1Two {args : List PV} {M : List Blk} {P : PV × List Blk → Prop} (h : W C M.length ir_spec_l1Two.body ⟨start ir_spec_l1Two args, M⟩ (Le' M.length ir_spec_l1Two.results P)) : Lw (C f_spec_l1Two args M) P := call_ex rfl rfl h
theorem C_spec_l1Two {args : List PV} {M : List Blk} {r : PV × List Blk} (h : W C M.length ir_spec_l1Two.body ⟨start ir_spec_l1Two args, M⟩ (Lv M.length ir_spec_l1Two.results r)) : C f_spec_l1Two args M = some r := call_of rfl rfl h
theorem E_spec_AddMarks {args : List PV} {M : List Blk} {P : PV × List Blk → Prop} (h : W C M.length ir_spec_AddMarks.body ⟨start ir_spec_AddMarks args, M⟩ (Le' M.length ir_spec_AddMarks.results P)) : Lw (C f_spec_AddMarks args M) P := call_ex rfl rfl h
theorem C_spec_AddMarks {args : List PV} {M : List Blk} {r : PV × List Blk} (h : W C M.length ir_spec_AddMarks.body ⟨start ir_spec_AddMarks args, M⟩ (Lv M.length ir_spec_AddMarks.results r)) : C f_spec_AddMarks args M = some r := call_of rfl rfl h
theorem E_impl_covers {args : List PV} {M : List Blk} {P : PV × List Blk → Prop} (h : W C M.length ir_impl_covers.body ⟨start ir_impl_covers args, M⟩ (Le' M.length ir_impl_covers.results P)) : Lw (C f_impl_covers args M) P := call_ex rfl rfl h
theorem C_impl_covers {args : List PV} {M : List Blk} {r : PV × List Blk} (h : W C M.length ir_impl_covers.body ⟨start ir_impl_covers args, M⟩ (Lv M.length ir_impl_covers.results r)) : C f_impl_covers args M = some r := call_of rfl rfl h
theorem E_impl_Covers {args : List PV} {M : List Blk} {P : PV × List Blk → Prop} (h : W C M.length ir_impl_Covers.body ⟨start ir_impl_Covers args, M⟩ (Le' M.length ir_impl_Covers.results P)) : Lw (C f_impl_Covers args M) P := call_ex rfl rfl h
theorem C_impl_Covers {args : List PV} {M : List Blk} {r : PV × List Blk} (h : W C M.length ir_impl_Covers.body ⟨start ir_impl_Covers args, M⟩ (Lv M.length ir_impl_Covers.results r)) : C f_impl_Covers args M = some r := call_of rfl rfl h
theorem E_spec_l1Covers {args : List PV} {M : List Blk} {P : PV × List Blk → Prop} (h : W C M.length ir_spec_l1Covers.body ⟨start ir_spec_l1Covers args, M⟩ (Le' M.length ir_spec_l1Covers.results P)) : Lw (C f_spec_l1Covers args M) P := call_ex rfl rfl h
theorem C_spec_l1Covers {args : List PV} {M : List Blk} {r : PV × List Blk} (h : W C M.length ir_spec_l1Covers.body ⟨start ir_spec_l1Covers args, M⟩ (Lv M.length ir_spec_l1Covers.results r)) : C f_spec_l1Covers args M = some r := call_of rfl rfl h
theorem E_spec_Covers {args : List PV} {M : List Blk} {P : PV × List Blk → Prop} (h : W C M.length ir_spec_Covers.body ⟨start ir_spec_Covers args, M⟩ (Le' M.length ir_spec_Covers.results P)) : Lw (C f_spec_Covers args M) P := call_ex rfl rfl h
theorem C_spec_Covers {args : List PV} {M : List Blk} {r : PV × List Blk} (h : W C M.length ir_spec_Covers.body ⟨start ir_spec_Covers args, M⟩ (Lv M.length ir_spec_Covers.results r)) : C f_spec_Covers args M = some r := call_of rfl rfl h
theorem E_impl_TakeMarks_1 {args : List PV} {M : List Blk} {P : PV × List Blk → Prop} (h : W C M.length ir_impl_TakeMarks_1.body ⟨start ir_impl_TakeMarks_1 args, M⟩ (Le' M.length ir_impl_TakeMarks_1.results P)) : Lw (C f_impl_TakeMarks_1 args M) P := call_ex rfl rfl h
theorem C_impl_TakeMarks_1 {args : List PV} {M : List Blk} {r : PV × List Blk} (h : W C M.length ir_impl_TakeMarks_1.body ⟨start ir_impl_TakeMarks_1 args, M⟩ (Lv M.length ir_impl_TakeMarks_1.results r)) : C f_impl_TakeMarks_1 args M = some r := call_of rfl rfl h
theorem E_impl_TakeMarks {args : List PV} {M : List Blk} {P : PV × List Blk → Prop} (h : W C M.length ir_impl_TakeMarks.body ⟨start ir_impl_TakeMarks args, M⟩ (Le' M.length ir_impl_TakeMarks.results P)) : Lw (C f_impl_TakeMarks args M) P := call_ex rfl rfl h
theorem C_impl_TakeMarks {args : List PV} {M : List Blk} {r : PV × List Blk} (h : W C M.length ir_impl_TakeMarks.body ⟨start ir_impl_TakeMarks args, M⟩ (Lv M.length ir_impl_TakeMarks.results r)) : C f_impl_TakeMarks args M = some r := call_of rfl rfl h
theorem E_spec_TakeMarks {args : List PV} {M : List Blk} {P : PV × List Blk → Prop} (h : W C M.length ir_spec_TakeMarks.body ⟨start ir_spec_TakeMarks args, M⟩ (Le' M.length ir_spec_TakeMarks.results P)) : Lw (C f_spec_TakeMarks args M) P := call_ex rfl rfl h
theorem C_spec_TakeMarks {args : List PV} {M : List Blk} {r : PV × List Blk} (h : W C M.length ir_spec_TakeMarks.body ⟨start ir_spec_TakeMarks args, M⟩ (Lv M.length ir_spec_TakeMarks.results r)) : C f_spec_TakeMarks args M = some r := call_of rfl rfl h
theorem E_laws_sameInts {args : List PV} {M : List Blk} {P : PV × List Blk → Prop} (h : W C M.length ir_laws_sameInts.body ⟨start ir_laws_sameInts args, M⟩ (Le' M.length ir_laws_sameInts.results P)) : Lw (C f_laws_sameInts args M) P := call_ex rfl rfl h
theorem C_laws_sameInts {args : List PV} {M : List Blk} {r : PV × List Blk} (h : W C M.length ir_laws_sameInts.body ⟨start ir_laws_sameInts args, M⟩ (Lv M.length ir_laws_sameInts.results r)) : C f_laws_sameInts args M = some r := call_of rfl rfl h
theorem E_impl_sumOf {args : List PV} {M : List Blk} {P : PV × List Blk → Prop} (h : W C M.length ir_impl_sumOf.body ⟨start ir_impl_sumOf args, M⟩ (Le' M.length ir_impl_sumOf.results P)) : Lw (C f_impl_sumOf args M) P := call_ex rfl rfl h
theorem C_impl_sumOf {args : List PV} {M : List Blk} {r : PV × List Blk} (h : W C M.length ir_impl_sumOf.body ⟨start ir_impl_sumOf args, M⟩ (Lv M.length ir_impl_sumOf.results r)) : C f_impl_sumOf args M = some r := call_of rfl rfl h
theorem E_impl_TotalOf {args : List PV} {M : List Blk} {P : PV × List Blk → Prop} (h : W C M.length ir_impl_TotalOf.body ⟨start ir_impl_TotalOf args, M⟩ (Le' M.length ir_impl_TotalOf.results P)) : Lw (C f_impl_TotalOf args M) P := call_ex rfl rfl h
theorem C_impl_TotalOf {args : List PV} {M : List Blk} {r : PV × List Blk} (h : W C M.length ir_impl_TotalOf.body ⟨start ir_impl_TotalOf args, M⟩ (Lv M.length ir_impl_TotalOf.results r)) : C f_impl_TotalOf args M = some r := call_of rfl rfl h
theorem E_spec_DrawGoodMark {args : List PV} {M : List Blk} {P : PV × List Blk → Prop} (h : W C M.length ir_spec_DrawGoodMark.body ⟨start ir_spec_DrawGoodMark args, M⟩ (Le' M.length ir_spec_DrawGoodMark.results P)) : Lw (C f_spec_DrawGoodMark args M) P := call_ex rfl rfl h
theorem C_spec_DrawGoodMark {args : List PV} {M : List Blk} {r : PV × List Blk} (h : W C M.length ir_spec_DrawGoodMark.body ⟨start ir_spec_DrawGoodMark args, M⟩ (Lv M.length ir_spec_DrawGoodMark.results r)) : C f_spec_DrawGoodMark args M = some r := call_of rfl rfl h
theorem E_spec_DrawTotalOf {args : List PV} {M : List Blk} {P : PV × List Blk → Prop} (h : W C M.length ir_spec_DrawTotalOf.body ⟨start ir_spec_DrawTotalOf args, M⟩ (Le' M.length ir_spec_DrawTotalOf.results P)) : Lw (C f_spec_DrawTotalOf args M) P := call_ex rfl rfl h
theorem C_spec_DrawTotalOf {args : List PV} {M : List Blk} {r : PV × List Blk} (h : W C M.length ir_spec_DrawTotalOf.body ⟨start ir_spec_DrawTotalOf args, M⟩ (Lv M.length ir_spec_DrawTotalOf.results r)) : C f_spec_DrawTotalOf args M = some r := call_of rfl rfl h
theorem E_spec_l1Total {args : List PV} {M : List Blk} {P : PV × List Blk → Prop} (h : W C M.length ir_spec_l1Total.body ⟨start ir_spec_l1Total args, M⟩ (Le' M.length ir_spec_l1Total.results P)) : Lw (C f_spec_l1Total args M) P := call_ex rfl rfl h
theorem C_spec_l1Total {args : List PV} {M : List Blk} {r : PV × List Blk} (h : W C M.length ir_spec_l1Total.body ⟨start ir_spec_l1Total args, M⟩ (Lv M.length ir_spec_l1Total.results r)) : C f_spec_l1Total args M = some r := call_of rfl rfl h
theorem E_spec_TotalOf {args : List PV} {M : List Blk} {P : PV × List Blk → Prop} (h : W C M.length ir_spec_TotalOf.body ⟨start ir_spec_TotalOf args, M⟩ (Le' M.length ir_spec_TotalOf.results P)) : Lw (C f_spec_TotalOf args M) P := call_ex rfl rfl h
theorem C_spec_TotalOf {args : List PV} {M : List Blk} {r : PV × List Blk} (h : W C M.length ir_spec_TotalOf.body ⟨start ir_spec_TotalOf args, M⟩ (Lv M.length ir_spec_TotalOf.results r)) : C f_spec_TotalOf args M = some r := call_of rfl rfl h
theorem E_laws_FnMarks {args : List PV} {M : List Blk} {P : PV × List Blk → Prop} (h : W C M.length ir_laws_FnMarks.body ⟨start ir_laws_FnMarks args, M⟩ (Le' M.length ir_laws_FnMarks.results P)) : Lw (C f_laws_FnMarks args M) P := call_ex rfl rfl h
theorem C_laws_FnMarks {args : List PV} {M : List Blk} {r : PV × List Blk} (h : W C M.length ir_laws_FnMarks.body ⟨start ir_laws_FnMarks args, M⟩ (Lv M.length ir_laws_FnMarks.results r)) : C f_laws_FnMarks args M = some r := call_of rfl rfl h
end Go.Proofs.Ytngjepmopahgdaa.Pi
