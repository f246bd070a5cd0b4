/- The forms of the functions that the law reaches, and their oracle. Definitions alone; no condition. -/
import Derived.Test.YtngjepmopahgdaaPiExt
namespace Go.Proofs.Ytngjepmopahgdaa.Pi
open Go
set_option linter.all false
abbrev t_int : TypeId := 3
abbrev t_sl_int : TypeId := 24
abbrev t_impl_Net : TypeId := 39
abbrev t_impl_Trans : TypeId := 54
abbrev t_spec_l1Cur : TypeId := 101
abbrev f_laws_big : FuncId := 15
abbrev f_spec_l1Cur_next : FuncId := 233
abbrev f_spec_l1Cur_pick : FuncId := 137
abbrev f_spec_l1Put : FuncId := 244
abbrev f_spec_l1Cur_someOf : FuncId := 232
abbrev f_spec_l1Cur_one : FuncId := 136
abbrev f_spec_l1Cur_among : FuncId := 206
abbrev f_spec_l1Cur_net : FuncId := 134
abbrev f_spec_DrawTurnNet : FuncId := 42
abbrev f_impl_within : FuncId := 127
abbrev f_impl_increasing : FuncId := 237
abbrev f_impl_allWithin : FuncId := 128
abbrev f_impl_arePlaces : FuncId := 153
abbrev f_impl_GoodNet_1 : FuncId := 152
abbrev f_slices_IndexFunc_sl_impl_Trans_impl_Trans : FuncId := 236
abbrev f_slices_ContainsFunc_sl_impl_Trans_impl_Trans : FuncId := 151
abbrev f_impl_GoodNet : FuncId := 37
abbrev f_impl_hasResets_1 : FuncId := 235
abbrev f_impl_hasResets : FuncId := 146
abbrev f_slices_Clone_sl_int_int : FuncId := 150
abbrev f_impl_cloneNet : FuncId := 157
abbrev f_impl_checkedNet : FuncId := 158
abbrev f_impl_TurnNet : FuncId := 43
abbrev f_spec_l1In : FuncId := 143
abbrev f_spec_l1Places : FuncId := 129
abbrev f_spec_l1Rising : FuncId := 154
abbrev f_spec_GoodNet : FuncId := 38
abbrev f_spec_l2Resets : FuncId := 159
abbrev f_spec_l1Own : FuncId := 147
abbrev f_spec_TurnNet : FuncId := 44
abbrev f_laws_sameInts : FuncId := 23
abbrev f_laws_sameNet : FuncId := 45
abbrev f_laws_numberOf : FuncId := 33
abbrev f_impl_GoodMark : FuncId := 24
abbrev f_impl_isMarked : FuncId := 138
abbrev f_impl_isTrans : FuncId := 139
abbrev f_impl_isEnabled_1 : FuncId := 234
abbrev f_slices_IndexFunc_sl_int_int : FuncId := 238
abbrev f_slices_ContainsFunc_sl_int_int : FuncId := 165
abbrev f_impl_isEnabled : FuncId := 140
abbrev f_impl_fired : FuncId := 141
abbrev f_impl_checkedMark : FuncId := 120
abbrev f_impl_Fire : FuncId := 30
abbrev f_spec_DrawTakersOf : FuncId := 46
abbrev f_slices_Index_sl_int_int : FuncId := 239
abbrev f_slices_Contains_sl_int_int : FuncId := 167
abbrev f_impl_transWith : FuncId := 160
abbrev f_impl_TakersOf_1 : FuncId := 161
abbrev f_impl_TakersOf : FuncId := 47
abbrev f_spec_l1Has : FuncId := 192
abbrev f_spec_l2Takers : FuncId := 162
abbrev f_spec_TakersOf : FuncId := 48
abbrev f_impl_GiversOf_1 : FuncId := 163
abbrev f_impl_GiversOf : FuncId := 49
abbrev f_spec_l2Givers : FuncId := 164
abbrev f_spec_GiversOf : FuncId := 50
abbrev f_impl_IsFreeChoice_1 : FuncId := 166
abbrev f_slices_Equal_sl_int_int : FuncId := 168
abbrev f_impl_IsFreeChoice : FuncId := 51
abbrev f_spec_l2Meet : FuncId := 169
abbrev f_spec_l1Same : FuncId := 170
abbrev f_spec_IsFreeChoice : FuncId := 52
abbrev f_impl_HasResets : FuncId := 32
abbrev f_spec_HasResets : FuncId := 53
abbrev f_laws_FnTurned : FuncId := 6
def ext_slices_Clone_sl_int_int : List PV → Option PV := extClone t_int true 1
def ir_laws_big : IFun := ⟨[0, 1, 4],
  (.seq (.region false [] [⟨some 2, .mov (.c (.bool false)), none⟩])
  (.seq (.region false [] [⟨none, .mov (.v 0), none⟩, ⟨none, .len false (.r 0), none⟩, ⟨none, .bin false .gtr (.r 1) (.c (.int .i64 1048576)), none⟩, ⟨none, .mov (.r 2), none⟩, ⟨none, .mov (.v 1), some (3, false)⟩, ⟨none, .len false (.r 4), some (3, false)⟩, ⟨none, .mov (.v 0), some (3, false)⟩, ⟨none, .len false (.r 6), some (3, false)⟩, ⟨none, .bin false .sub (.c (.int .i64 1048576)) (.r 7), some (3, false)⟩, ⟨none, .bin false .gtr (.r 5) (.r 8), some (3, false)⟩, ⟨none, .pick (.r 3) (.c (.bool true)) (.r 9), none⟩, ⟨some 2, .mov (.r 10), none⟩])
  .ret)),
  [.v 2]⟩
def ir_spec_l1Cur_next : IFun := ⟨[0, 2, 3, 13, 53],
  (.seq (.region false [] [⟨some 1, .mov (.c (.int .i64 0)), none⟩])
  (.seq (.region false [] [⟨some 2, .mov (.c (.int .i64 0)), none⟩])
  (.seq (.seq (.region true [] [⟨none, .mov (.v 0), none⟩, ⟨none, .ncheck (.r 0), none⟩, ⟨none, .faddr 1 (.r 1), none⟩, ⟨none, .load false 1 (.r 2), none⟩, ⟨none, .mov (.v 0), none⟩, ⟨none, .ncheck (.r 4), none⟩, ⟨none, .faddr 0 (.r 5), none⟩, ⟨none, .load false 1 (.r 6), none⟩, ⟨none, .len false (.r 7), none⟩, ⟨some 3, .bin false .lss (.r 3) (.r 8), none⟩])
  (.cond (.v 3) (.region true [] [⟨none, .mov (.v 0), none⟩, ⟨none, .ncheck (.r 0), none⟩, ⟨none, .faddr 0 (.r 1), none⟩, ⟨none, .load false 1 (.r 2), none⟩, ⟨none, .mov (.v 0), none⟩, ⟨none, .ncheck (.r 4), none⟩, ⟨none, .faddr 1 (.r 5), none⟩, ⟨none, .load false 1 (.r 6), none⟩, ⟨none, .iaddr 1 (.r 3) (.r 7), none⟩, ⟨none, .load false 1 (.r 8), none⟩, ⟨none, .conv .i64 (.r 9), none⟩, ⟨some 2, .mov (.r 10), none⟩]) .skip))
  (.seq (.region false [] [⟨none, .mov (.v 0), none⟩, ⟨none, .ncheck (.r 0), none⟩, ⟨none, .faddr 1 (.r 1), none⟩, ⟨none, .load false 1 (.r 2), none⟩, ⟨none, .bin false .add (.r 3) (.c (.int .i64 1)), none⟩, ⟨none, .ncheck (.r 0), none⟩, ⟨none, .faddr 1 (.r 5), none⟩, ⟨none, .store 1 (.r 6) (.r 4), none⟩])
  (.seq (.region false [] [⟨none, .mov (.v 0), none⟩, ⟨none, .mov (.v 0), none⟩, ⟨none, .ncheck (.r 1), none⟩, ⟨none, .faddr 2 (.r 2), none⟩, ⟨none, .load false 1 (.r 3), none⟩, ⟨none, .bin false .mul (.r 4) (.c (.int .u64 6364136223846793005)), none⟩, ⟨none, .mov (.v 2), none⟩, ⟨none, .conv .u64 (.r 6), none⟩, ⟨none, .bin false .add (.r 5) (.r 7), none⟩, ⟨none, .bin false .add (.r 8) (.c (.int .u64 1442695040888963407)), none⟩, ⟨none, .ncheck (.r 0), none⟩, ⟨none, .faddr 2 (.r 10), none⟩, ⟨none, .store 1 (.r 11) (.r 9), none⟩])
  (.seq (.seq (.region true [] [⟨none, .mov (.v 0), none⟩, ⟨none, .ncheck (.r 0), none⟩, ⟨none, .faddr 1 (.r 1), none⟩, ⟨none, .load false 1 (.r 2), none⟩, ⟨none, .mov (.v 0), none⟩, ⟨none, .ncheck (.r 4), none⟩, ⟨none, .faddr 0 (.r 5), none⟩, ⟨none, .load false 1 (.r 6), none⟩, ⟨none, .len false (.r 7), none⟩, ⟨some 4, .bin false .leq (.r 3) (.r 8), none⟩])
  (.cond (.v 4) (.seq (.region false [] [⟨none, .mov (.v 2), none⟩, ⟨some 1, .mov (.r 0), none⟩])
  .ret) .skip))
  (.seq (.region false [] [⟨none, .mov (.v 0), none⟩, ⟨none, .ncheck (.r 0), none⟩, ⟨none, .faddr 2 (.r 1), none⟩, ⟨none, .load false 1 (.r 2), none⟩, ⟨none, .bin false .shr (.r 3) (.c (.int .u64 40)), none⟩, ⟨none, .bin false .and (.r 4) (.c (.int .u64 255)), none⟩, ⟨none, .conv .i64 (.r 5), none⟩, ⟨some 1, .mov (.r 6), none⟩])
  .ret))))))),
  [.v 1]⟩
def ir_spec_l1Cur_pick : IFun := ⟨[0, 1, 4, 5, 7, 11],
  (.seq (.region false [] [⟨some 2, .mov (.c (.int .i64 0)), none⟩])
  (.seq (.seq (.region false [] [⟨none, .mov (.v 1), none⟩, ⟨some 4, .bin false .leq (.r 0) (.c (.int .i64 1)), none⟩])
  (.cond (.v 4) (.seq (.region false [] [⟨some 2, .mov (.c (.int .i64 0)), none⟩])
  .ret) .skip))
  (.seq (.region false [] [⟨none, .mov (.v 0), none⟩, ⟨none, .callm f_spec_l1Cur_next [(.r 0)], none⟩, ⟨some 3, .mov (.r 1), none⟩])
  (.seq (.seq (.region false [] [⟨none, .mov (.v 1), none⟩, ⟨some 5, .bin false .gtr (.r 0) (.c (.int .i64 200)), none⟩])
  (.cond (.v 5) (.region false [] [⟨none, .mov (.v 3), none⟩, ⟨none, .bin false .mul (.r 0) (.c (.int .i64 256)), none⟩, ⟨none, .mov (.v 0), none⟩, ⟨none, .callm f_spec_l1Cur_next [(.r 2)], none⟩, ⟨none, .bin false .add (.r 1) (.r 3), none⟩, ⟨some 3, .mov (.r 4), none⟩]) .skip))
  (.seq (.region false [] [⟨none, .mov (.v 3), none⟩, ⟨none, .mov (.v 1), none⟩, ⟨none, .bin false .rem (.r 0) (.r 1), none⟩, ⟨some 2, .mov (.r 2), none⟩])
  .ret))))),
  [.v 2]⟩
def ir_spec_l1Put : IFun := ⟨[0, 1, 4, 5, 6, 18, 32],
  (.seq (.region false [] [⟨some 2, .nilrow t_int true 1, none⟩])
  (.seq (.region false [] [⟨some 3, .mov (.c (.int .i64 0)), none⟩])
  (.seq (.block 0 (.loop [true, true, false, true, false, false, false] (.seq (.seq (.region false [] [⟨none, .mov (.v 3), none⟩, ⟨none, .mov (.v 0), none⟩, ⟨none, .len false (.r 1), none⟩, ⟨none, .bin false .lss (.r 0) (.r 2), none⟩, ⟨none, .mov (.r 3), none⟩, ⟨none, .mov (.v 0), some (4, true)⟩, ⟨none, .mov (.v 3), some (4, true)⟩, ⟨none, .iaddr 1 (.r 5) (.r 6), some (4, true)⟩, ⟨none, .load false 1 (.r 7), some (4, true)⟩, ⟨none, .mov (.v 1), some (4, true)⟩, ⟨none, .bin false .lss (.r 8) (.r 9), some (4, true)⟩, ⟨some 5, .pick (.r 4) (.r 10) (.c (.bool false)), none⟩])
  (.cond (.v 5) .skip (.exit 0)))
  (.block 1 (.region false [] [⟨none, .mov (.v 3), none⟩, ⟨none, .bin false .add (.r 0) (.c (.int .i64 1)), none⟩, ⟨some 3, .mov (.r 1), none⟩])))))
  (.seq (.seq (.region false [] [⟨none, .mov (.v 3), none⟩, ⟨none, .mov (.v 0), none⟩, ⟨none, .len false (.r 1), none⟩, ⟨none, .bin false .lss (.r 0) (.r 2), none⟩, ⟨none, .mov (.r 3), none⟩, ⟨none, .mov (.v 0), some (4, true)⟩, ⟨none, .mov (.v 3), some (4, true)⟩, ⟨none, .iaddr 1 (.r 5) (.r 6), some (4, true)⟩, ⟨none, .load false 1 (.r 7), some (4, true)⟩, ⟨none, .mov (.v 1), some (4, true)⟩, ⟨none, .bin false .eql (.r 8) (.r 9), some (4, true)⟩, ⟨some 6, .pick (.r 4) (.r 10) (.c (.bool false)), none⟩])
  (.cond (.v 6) (.seq (.region false [] [⟨none, .mov (.v 0), none⟩, ⟨some 2, .mov (.r 0), none⟩])
  .ret) .skip))
  (.seq (.region false [] [⟨none, .bslice false t_int true 1 [], none⟩, ⟨none, .mov (.v 0), none⟩, ⟨none, .mov (.v 3), none⟩, ⟨none, .slice 1 (.r 1) none (some (.r 2)), none⟩, ⟨none, .append t_int true 1 (.r 0) (.r 3), none⟩, ⟨some 4, .mov (.r 4), none⟩])
  (.seq (.region false [] [⟨none, .mov (.v 4), none⟩, ⟨none, .mov (.v 1), none⟩, ⟨none, .bslice false t_int true 1 [(.r 1)], none⟩, ⟨none, .append t_int true 1 (.r 0) (.r 2), none⟩, ⟨some 4, .mov (.r 3), none⟩])
  (.seq (.region false [] [⟨none, .mov (.v 4), none⟩, ⟨none, .mov (.v 0), none⟩, ⟨none, .mov (.v 3), none⟩, ⟨none, .slice 1 (.r 1) (some (.r 2)) none, none⟩, ⟨none, .append t_int true 1 (.r 0) (.r 3), none⟩, ⟨some 2, .mov (.r 4), none⟩])
  .ret))))))),
  [.v 2]⟩
def ir_spec_l1Cur_someOf : IFun := ⟨[0, 1, 2, 3, 8, 9, 10, 20],
  (.seq (.region false [] [⟨some 4, .nilrow t_int true 1, none⟩])
  (.seq (.region false [] [⟨some 5, .nilrow t_int true 1, none⟩])
  (.seq (.seq (.region false [] [⟨none, .mov (.v 2), none⟩, ⟨none, .mov (.v 0), none⟩, ⟨none, .mov (.v 3), none⟩, ⟨none, .mov (.v 2), none⟩, ⟨none, .bin false .sub (.r 2) (.r 3), none⟩, ⟨none, .bin false .add (.r 4) (.c (.int .i64 1)), none⟩, ⟨none, .callm f_spec_l1Cur_pick [(.r 1), (.r 5)], none⟩, ⟨none, .bin false .add (.r 0) (.r 6), none⟩, ⟨some 6, .mov (.r 7), none⟩])
  (.block 0 (.loop [true, true, false, false, false, true, true, false] (.seq (.seq (.region false [] [⟨none, .mov (.v 6), none⟩, ⟨some 7, .bin false .gtr (.r 0) (.c (.int .i64 0)), none⟩])
  (.cond (.v 7) .skip (.exit 0)))
  (.seq (.block 1 (.region false [] [⟨none, .mov (.v 5), none⟩, ⟨none, .mov (.v 0), none⟩, ⟨none, .mov (.v 1), none⟩, ⟨none, .callm f_spec_l1Cur_pick [(.r 1), (.r 2)], none⟩, ⟨none, .callm f_spec_l1Put [(.r 0), (.r 3)], none⟩, ⟨some 5, .mov (.r 4), none⟩]))
  (.region false [] [⟨none, .mov (.v 6), none⟩, ⟨none, .bin false .sub (.r 0) (.c (.int .i64 1)), none⟩, ⟨some 6, .mov (.r 1), none⟩]))))))
  (.seq (.region false [] [⟨none, .mov (.v 5), none⟩, ⟨some 4, .mov (.r 0), none⟩])
  .ret)))),
  [.v 4]⟩
def ir_spec_l1Cur_one : IFun := ⟨[0, 1, 4],
  (.seq (.region false [] [⟨some 2, .mov (.c (.bool false)), none⟩])
  (.seq (.region false [] [⟨none, .mov (.v 0), none⟩, ⟨none, .mov (.v 1), none⟩, ⟨none, .callm f_spec_l1Cur_pick [(.r 0), (.r 1)], none⟩, ⟨none, .bin false .eql (.r 2) (.c (.int .i64 0)), none⟩, ⟨some 2, .mov (.r 3), none⟩])
  .ret)),
  [.v 2]⟩
def ir_spec_l1Cur_among : IFun := ⟨[0, 1, 4],
  (.seq (.region false [] [⟨some 2, .mov (.c (.int .i64 0)), none⟩])
  (.seq (.region false [] [⟨none, .mov (.v 1), none⟩, ⟨none, .mov (.v 0), none⟩, ⟨none, .mov (.v 1), none⟩, ⟨none, .len false (.r 2), none⟩, ⟨none, .callm f_spec_l1Cur_pick [(.r 1), (.r 3)], none⟩, ⟨none, .iaddr 1 (.r 0) (.r 4), none⟩, ⟨none, .load false 1 (.r 5), none⟩, ⟨some 2, .mov (.r 6), none⟩])
  .ret)),
  [.v 2]⟩
def ir_spec_l1Cur_net : IFun := ⟨[0, 1, 4, 5, 6, 7, 16, 32, 45, 46, 52, 58],
  (.seq (.region false [] [⟨some 2, .alloc t_impl_Net [(.int .i64 0), (.nil false 3)], none⟩])
  (.seq (.region false [] [⟨none, .mov (.v 0), none⟩, ⟨none, .callm f_spec_l1Cur_pick [(.r 0), (.c (.int .i64 4))], none⟩, ⟨none, .bin false .add (.c (.int .i64 2)) (.r 1), none⟩, ⟨none, .build [(.int .i64 0), (.nil false 3)] [(0, 1, (.r 2))], none⟩, ⟨some 3, .alloc t_impl_Net [(.int .i64 0), (.nil false 3)], none⟩, ⟨none, .store 2 (.v 3) (.r 3), none⟩])
  (.seq (.seq (.region false [] [⟨none, .mov (.v 0), none⟩, ⟨none, .callm f_spec_l1Cur_pick [(.r 0), (.c (.int .i64 5))], none⟩, ⟨none, .bin false .add (.c (.int .i64 1)) (.r 1), none⟩, ⟨some 4, .mov (.r 2), none⟩])
  (.block 0 (.loop [true, true, true, true, true, false, false, false, false, false, false, false] (.seq (.seq (.region false [] [⟨none, .mov (.v 4), none⟩, ⟨some 6, .bin false .gtr (.r 0) (.c (.int .i64 0)), none⟩])
  (.cond (.v 6) .skip (.exit 0)))
  (.seq (.block 1 (.seq (.region true [(7, 5)] [⟨none, .mov (.v 0), none⟩, ⟨none, .faddr 0 (.v 3), none⟩, ⟨none, .load false 1 (.r 1), none⟩, ⟨none, .mov (.v 0), none⟩, ⟨none, .faddr 0 (.v 3), none⟩, ⟨none, .load false 1 (.r 4), none⟩, ⟨some 5, .alloc t_impl_Trans [(.nil true 1), (.nil true 1), (.nil true 1)], none⟩, ⟨none, .callm f_spec_l1Cur_someOf [(.r 0), (.r 2), (.c (.int .i64 1)), (.c (.int .i64 2))], none⟩, ⟨none, .callm f_spec_l1Cur_someOf [(.r 3), (.r 5), (.c (.int .i64 0)), (.c (.int .i64 2))], none⟩, ⟨none, .build [(.nil true 1), (.nil true 1), (.nil true 1)] [(0, 1, (.r 7)), (1, 1, (.r 8))], none⟩, ⟨none, .store 3 (.v 5) (.r 9), none⟩])
  (.seq (.seq (.region false [] [⟨none, .mov (.v 1), none⟩, ⟨none, .mov (.r 0), none⟩, ⟨none, .mov (.v 0), some (1, true)⟩, ⟨none, .callm f_spec_l1Cur_one [(.r 2), (.c (.int .i64 5))], some (1, true)⟩, ⟨some 7, .pick (.r 1) (.r 3) (.c (.bool false)), none⟩])
  (.cond (.v 7) (.region false [] [⟨none, .mov (.v 0), none⟩, ⟨none, .faddr 0 (.v 3), none⟩, ⟨none, .load false 1 (.r 1), none⟩, ⟨none, .callm f_spec_l1Cur_someOf [(.r 0), (.r 2), (.c (.int .i64 1)), (.c (.int .i64 2))], none⟩, ⟨none, .faddr 2 (.v 5), none⟩, ⟨none, .store 1 (.r 4) (.r 3), none⟩]) .skip))
  (.region false [] [⟨none, .faddr 1 (.v 3), none⟩, ⟨none, .load false 1 (.r 0), none⟩, ⟨none, .load true 3 (.v 5), none⟩, ⟨none, .bslice false t_impl_Trans false 3 [(.r 2)], none⟩, ⟨none, .append t_impl_Trans false 3 (.r 1) (.r 3), none⟩, ⟨none, .faddr 1 (.v 3), none⟩, ⟨none, .store 1 (.r 5) (.r 4), none⟩]))))
  (.region false [] [⟨none, .mov (.v 4), none⟩, ⟨none, .bin false .sub (.r 0) (.c (.int .i64 1)), none⟩, ⟨some 4, .mov (.r 1), none⟩]))))))
  (.seq (.seq (.region false [] [⟨none, .mov (.v 0), none⟩, ⟨some 8, .callm f_spec_l1Cur_pick [(.r 0), (.c (.int .i64 40))], none⟩])
  (.block 2 (.seq (.region false [] [⟨none, .bin false .eql (.v 8) (.c (.int .i64 0)), none⟩, ⟨some 9, .mov (.r 0), none⟩])
  (.cond (.v 9) (.region false [] [⟨none, .mov (.v 0), none⟩, ⟨none, .bslice false t_int true 1 [(.c (.int .i64 0)), (.c (.int .i64 1)), (.c (.int .i64 17))], none⟩, ⟨none, .callm f_spec_l1Cur_among [(.r 0), (.r 1)], none⟩, ⟨none, .faddr 0 (.v 3), none⟩, ⟨none, .store 1 (.r 3) (.r 2), none⟩]) (.seq (.region false [] [⟨none, .bin false .eql (.v 8) (.c (.int .i64 1)), none⟩, ⟨some 10, .mov (.r 0), none⟩])
  (.cond (.v 10) (.region false [] [⟨none, .faddr 1 (.v 3), none⟩, ⟨none, .load false 1 (.r 0), none⟩, ⟨none, .iaddr 3 (.r 1) (.c (.int .i64 0)), none⟩, ⟨none, .faddr 0 (.r 2), none⟩, ⟨none, .store 1 (.r 3) (.c (.nil true 1)), none⟩]) (.seq (.region false [] [⟨none, .bin false .eql (.v 8) (.c (.int .i64 2)), none⟩, ⟨some 11, .mov (.r 0), none⟩])
  (.cond (.v 11) (.region false [] [⟨none, .faddr 1 (.v 3), none⟩, ⟨none, .load false 1 (.r 0), none⟩, ⟨none, .bslice false t_int true 1 [(.c (.int .i64 1)), (.c (.int .i64 0))], none⟩, ⟨none, .iaddr 3 (.r 1) (.c (.int .i64 0)), none⟩, ⟨none, .faddr 1 (.r 3), none⟩, ⟨none, .store 1 (.r 4) (.r 2), none⟩]) .skip))))))))
  (.seq (.region false [] [⟨none, .load true 2 (.v 3), none⟩, ⟨none, .store 2 (.v 2) (.r 0), none⟩])
  .ret))))),
  [.cell true 2 2]⟩
def ir_spec_DrawTurnNet : IFun := ⟨[0, 2, 3, 4, 5, 13, 14, 15, 29],
  (.seq (.region false [] [⟨some 1, .alloc t_impl_Net [(.int .i64 0), (.nil false 3)], none⟩])
  (.seq (.region false [] [⟨none, .mov (.v 0), none⟩, ⟨none, .build [(.nil true 1), (.int .i64 0), (.int .u64 0)] [(0, 1, (.r 0))], none⟩, ⟨none, .box t_spec_l1Cur 3 (.r 1), none⟩, ⟨some 2, .mov (.r 2), none⟩])
  (.seq (.region false [] [⟨none, .mov (.v 2), none⟩, ⟨none, .callm f_spec_l1Cur_net [(.r 0), (.c (.bool false))], none⟩, ⟨some 3, .alloc t_impl_Net [(.int .i64 0), (.nil false 3)], none⟩, ⟨none, .store 2 (.v 3) (.r 1), none⟩])
  (.seq (.seq (.region false [] [⟨none, .faddr 1 (.v 3), none⟩, ⟨none, .load false 1 (.r 0), none⟩, ⟨some 5, .len false (.r 1), none⟩, ⟨some 6, .mov (.c (.int .i64 0)), none⟩])
  (.block 0 (.loop [false, true, true, true, false, true, true, false, false] (.seq (.region false [] [⟨some 7, .bin false .lss (.v 6) (.v 5), none⟩])
  (.seq (.cond (.v 7) .skip (.exit 0))
  (.seq (.block 1 (.seq (.region false [] [⟨none, .mov (.v 6), none⟩, ⟨some 4, .mov (.r 0), none⟩])
  (.seq (.region false [] [⟨none, .faddr 1 (.v 3), none⟩, ⟨none, .load false 1 (.r 0), none⟩, ⟨none, .mov (.v 4), none⟩, ⟨none, .iaddr 3 (.r 1) (.r 2), none⟩, ⟨none, .faddr 1 (.r 3), none⟩, ⟨none, .load false 1 (.r 4), none⟩, ⟨none, .len false (.r 5), none⟩, ⟨none, .bin false .eql (.r 6) (.c (.int .i64 0)), none⟩, ⟨none, .mov (.r 7), none⟩, ⟨none, .mov (.v 2), some (8, true)⟩, ⟨none, .callm f_spec_l1Cur_one [(.r 9), (.c (.int .i64 4))], some (8, true)⟩, ⟨none, .not (.r 10), some (8, true)⟩, ⟨some 8, .pick (.r 8) (.r 11) (.c (.bool false)), none⟩])
  (.cond (.v 8) (.region false [] [⟨none, .faddr 1 (.v 3), none⟩, ⟨none, .load false 1 (.r 0), none⟩, ⟨none, .mov (.v 4), none⟩, ⟨none, .bslice false t_int true 1 [(.c (.int .i64 0))], none⟩, ⟨none, .iaddr 3 (.r 1) (.r 2), none⟩, ⟨none, .faddr 1 (.r 4), none⟩, ⟨none, .store 1 (.r 5) (.r 3), none⟩]) .skip))))
  (.region false [] [⟨none, .bin false .add (.v 6) (.c (.int .i64 1)), none⟩, ⟨some 6, .mov (.r 0), none⟩])))))))
  (.seq (.region false [] [⟨none, .load true 2 (.v 3), none⟩, ⟨none, .store 2 (.v 1) (.r 0), none⟩])
  .ret))))),
  [.cell true 2 1]⟩
def ir_impl_within : IFun := ⟨[0, 1, 2, 6],
  (.seq (.region false [] [⟨some 3, .mov (.c (.bool false)), none⟩])
  (.seq (.region false [] [⟨none, .mov (.v 0), none⟩, ⟨none, .mov (.v 1), none⟩, ⟨none, .bin false .geq (.r 0) (.r 1), none⟩, ⟨none, .mov (.r 2), none⟩, ⟨none, .mov (.v 0), some (3, true)⟩, ⟨none, .mov (.v 2), some (3, true)⟩, ⟨none, .bin false .leq (.r 4) (.r 5), some (3, true)⟩, ⟨none, .pick (.r 3) (.r 6) (.c (.bool false)), none⟩, ⟨some 3, .mov (.r 7), none⟩])
  .ret)),
  [.v 3]⟩
def ir_impl_increasing : IFun := ⟨[0, 2, 3, 7, 19],
  (.seq (.region false [] [⟨some 1, .mov (.c (.bool false)), none⟩])
  (.seq (.seq (.region false [] [⟨some 2, .mov (.c (.int .i64 1)), none⟩])
  (.block 0 (.loop [true, false, true, false, false] (.seq (.seq (.region false [] [⟨none, .mov (.v 2), none⟩, ⟨none, .mov (.v 0), none⟩, ⟨none, .len false (.r 1), none⟩, ⟨some 3, .bin false .lss (.r 0) (.r 2), none⟩])
  (.cond (.v 3) .skip (.exit 0)))
  (.seq (.block 1 (.seq (.region true [] [⟨none, .mov (.v 0), none⟩, ⟨none, .mov (.v 2), none⟩, ⟨none, .bin false .sub (.r 1) (.c (.int .i64 1)), none⟩, ⟨none, .iaddr 1 (.r 0) (.r 2), none⟩, ⟨none, .load false 1 (.r 3), none⟩, ⟨none, .mov (.v 0), none⟩, ⟨none, .mov (.v 2), none⟩, ⟨none, .iaddr 1 (.r 5) (.r 6), none⟩, ⟨none, .load false 1 (.r 7), none⟩, ⟨some 4, .bin false .geq (.r 4) (.r 8), none⟩])
  (.cond (.v 4) (.seq (.region false [] [⟨some 1, .mov (.c (.bool false)), none⟩])
  .ret) .skip)))
  (.region false [] [⟨none, .mov (.v 2), none⟩, ⟨none, .bin false .add (.r 0) (.c (.int .i64 1)), none⟩, ⟨some 2, .mov (.r 1), none⟩]))))))
  (.seq (.region false [] [⟨some 1, .mov (.c (.bool true)), none⟩])
  .ret))),
  [.v 1]⟩
def ir_impl_allWithin : IFun := ⟨[0, 1, 2, 6, 8, 9, 10, 11, 12, 19],
  (.seq (.region false [] [⟨some 3, .mov (.c (.bool false)), none⟩])
  (.seq (.seq (.region false [] [⟨some 5, .mov (.v 0), none⟩, ⟨some 6, .len false (.v 5), none⟩, ⟨some 7, .mov (.c (.int .i64 0)), none⟩])
  (.block 0 (.loop [false, true, true, false, false, true, true, true, false, false] (.seq (.region false [] [⟨some 8, .bin false .lss (.v 7) (.v 6), none⟩])
  (.seq (.cond (.v 8) .skip (.exit 0))
  (.seq (.block 1 (.seq (.region false [] [⟨none, .iaddr 1 (.v 5) (.v 7), none⟩, ⟨none, .load false 1 (.r 0), none⟩, ⟨some 4, .mov (.r 1), none⟩])
  (.seq (.region false [] [⟨none, .mov (.v 4), none⟩, ⟨none, .mov (.v 1), none⟩, ⟨none, .mov (.v 2), none⟩, ⟨none, .call false f_impl_within [(.r 0), (.r 1), (.r 2)], none⟩, ⟨some 9, .not (.r 3), none⟩])
  (.cond (.v 9) (.seq (.region false [] [⟨some 3, .mov (.c (.bool false)), none⟩])
  .ret) .skip))))
  (.region false [] [⟨none, .bin false .add (.v 7) (.c (.int .i64 1)), none⟩, ⟨some 7, .mov (.r 0), none⟩])))))))
  (.seq (.region false [] [⟨some 3, .mov (.c (.bool true)), none⟩])
  .ret))),
  [.v 3]⟩
def ir_impl_arePlaces : IFun := ⟨[0, 1, 2, 4],
  (.seq (.region false [] [⟨some 2, .box t_impl_Net 2 (.v 0), none⟩, ⟨some 3, .mov (.c (.bool false)), none⟩])
  (.seq (.region false [] [⟨none, .mov (.v 1), none⟩, ⟨none, .call false f_impl_increasing [(.r 0)], none⟩, ⟨none, .mov (.r 1), none⟩, ⟨none, .mov (.v 1), some (2, true)⟩, ⟨none, .faddr 0 (.v 2), some (2, true)⟩, ⟨none, .load false 1 (.r 4), some (2, true)⟩, ⟨none, .bin false .sub (.r 5) (.c (.int .i64 1)), some (2, true)⟩, ⟨none, .call false f_impl_allWithin [(.r 3), (.c (.int .i64 0)), (.r 6)], some (2, true)⟩, ⟨none, .pick (.r 2) (.r 7) (.c (.bool false)), none⟩, ⟨some 3, .mov (.r 8), none⟩])
  .ret)),
  [.v 3]⟩
def ir_impl_GoodNet_1 : IFun := ⟨[0, 1, 2, 3],
  (.seq (.region false [] [⟨some 2, .box t_impl_Trans 3 (.v 0), none⟩, ⟨some 3, .mov (.c (.bool false)), none⟩])
  (.seq (.region false [] [⟨none, .faddr 0 (.v 2), none⟩, ⟨none, .load false 1 (.r 0), none⟩, ⟨none, .len false (.r 1), none⟩, ⟨none, .bin false .eql (.r 2) (.c (.int .i64 0)), none⟩, ⟨none, .mov (.r 3), none⟩, ⟨none, .load true 2 (.v 1), some (4, false)⟩, ⟨none, .faddr 0 (.v 2), some (4, false)⟩, ⟨none, .load false 1 (.r 6), some (4, false)⟩, ⟨none, .call false f_impl_arePlaces [(.r 5), (.r 7)], some (4, false)⟩, ⟨none, .not (.r 8), some (4, false)⟩, ⟨none, .pick (.r 4) (.c (.bool true)) (.r 9), none⟩, ⟨none, .mov (.r 10), none⟩, ⟨none, .load true 2 (.v 1), some (11, false)⟩, ⟨none, .faddr 1 (.v 2), some (11, false)⟩, ⟨none, .load false 1 (.r 13), some (11, false)⟩, ⟨none, .call false f_impl_arePlaces [(.r 12), (.r 14)], some (11, false)⟩, ⟨none, .not (.r 15), some (11, false)⟩, ⟨none, .pick (.r 11) (.c (.bool true)) (.r 16), none⟩, ⟨none, .mov (.r 17), none⟩, ⟨none, .load true 2 (.v 1), some (18, false)⟩, ⟨none, .faddr 2 (.v 2), some (18, false)⟩, ⟨none, .load false 1 (.r 20), some (18, false)⟩, ⟨none, .call false f_impl_arePlaces [(.r 19), (.r 21)], some (18, false)⟩, ⟨none, .not (.r 22), some (18, false)⟩, ⟨none, .pick (.r 18) (.c (.bool true)) (.r 23), none⟩, ⟨some 3, .mov (.r 24), none⟩])
  .ret)),
  [.v 3]⟩
def ir_slices_IndexFunc_sl_impl_Trans_impl_Trans : IFun := ⟨[0, 1, 4, 5, 7, 8, 9, 16],
  (.seq (.region false [] [⟨some 2, .mov (.c (.int .i64 0)), none⟩])
  (.seq (.seq (.region false [] [⟨none, .mov (.v 0), none⟩, ⟨some 4, .len false (.r 0), none⟩, ⟨some 5, .mov (.c (.int .i64 0)), none⟩])
  (.block 0 (.loop [true, true, false, false, true, true, false, false] (.seq (.region false [] [⟨some 6, .bin false .lss (.v 5) (.v 4), none⟩])
  (.seq (.cond (.v 6) .skip (.exit 0))
  (.seq (.block 1 (.seq (.region false [] [⟨none, .mov (.v 5), none⟩, ⟨some 3, .mov (.r 0), none⟩])
  (.seq (.region false [] [⟨none, .mov (.v 1), none⟩, ⟨none, .mov (.v 0), none⟩, ⟨none, .mov (.v 3), none⟩, ⟨none, .iaddr 3 (.r 1) (.r 2), none⟩, ⟨none, .load true 3 (.r 3), none⟩, ⟨some 7, .callv false (.r 0) [(.r 4)], none⟩])
  (.cond (.v 7) (.seq (.region false [] [⟨none, .mov (.v 3), none⟩, ⟨some 2, .mov (.r 0), none⟩])
  .ret) .skip))))
  (.region false [] [⟨none, .bin false .add (.v 5) (.c (.int .i64 1)), none⟩, ⟨some 5, .mov (.r 0), none⟩])))))))
  (.seq (.region false [] [⟨some 2, .mov (.c (.int .i64 (-1))), none⟩])
  .ret))),
  [.v 2]⟩
def ir_slices_ContainsFunc_sl_impl_Trans_impl_Trans : IFun := ⟨[0, 1, 4],
  (.seq (.region false [] [⟨some 2, .mov (.c (.bool false)), none⟩])
  (.seq (.region false [] [⟨none, .mov (.v 0), none⟩, ⟨none, .mov (.v 1), none⟩, ⟨none, .call false f_slices_IndexFunc_sl_impl_Trans_impl_Trans [(.r 0), (.r 1)], none⟩, ⟨none, .bin false .geq (.r 2) (.c (.int .i64 0)), none⟩, ⟨some 2, .mov (.r 3), none⟩])
  .ret)),
  [.v 2]⟩
def ir_impl_GoodNet : IFun := ⟨[0, 1, 2],
  (.seq (.region false [] [⟨some 1, .box t_impl_Net 2 (.v 0), none⟩, ⟨some 2, .mov (.c (.bool false)), none⟩])
  (.seq (.region false [] [⟨none, .faddr 0 (.v 1), none⟩, ⟨none, .load false 1 (.r 0), none⟩, ⟨none, .call false f_impl_within [(.r 1), (.c (.int .i64 1)), (.c (.int .i64 16))], none⟩, ⟨none, .mov (.r 2), none⟩, ⟨none, .faddr 1 (.v 1), some (3, true)⟩, ⟨none, .load false 1 (.r 4), some (3, true)⟩, ⟨none, .len false (.r 5), some (3, true)⟩, ⟨none, .bin false .leq (.r 6) (.c (.int .i64 24)), some (3, true)⟩, ⟨none, .pick (.r 3) (.r 7) (.c (.bool false)), none⟩, ⟨none, .mov (.r 8), none⟩, ⟨none, .faddr 1 (.v 1), some (9, true)⟩, ⟨none, .load false 1 (.r 10), some (9, true)⟩, ⟨none, .mkfn f_impl_GoodNet_1 [(.v 1)], some (9, true)⟩, ⟨none, .call false f_slices_ContainsFunc_sl_impl_Trans_impl_Trans [(.r 11), (.r 12)], some (9, true)⟩, ⟨none, .not (.r 13), some (9, true)⟩, ⟨none, .pick (.r 9) (.r 14) (.c (.bool false)), none⟩, ⟨some 2, .mov (.r 15), none⟩])
  .ret)),
  [.v 2]⟩
def ir_impl_hasResets_1 : IFun := ⟨[0, 1, 2],
  (.seq (.region false [] [⟨some 1, .box t_impl_Trans 3 (.v 0), none⟩, ⟨some 2, .mov (.c (.bool false)), none⟩])
  (.seq (.region false [] [⟨none, .faddr 2 (.v 1), none⟩, ⟨none, .load false 1 (.r 0), none⟩, ⟨none, .len false (.r 1), none⟩, ⟨none, .bin false .gtr (.r 2) (.c (.int .i64 0)), none⟩, ⟨some 2, .mov (.r 3), none⟩])
  .ret)),
  [.v 2]⟩
def ir_impl_hasResets : IFun := ⟨[0, 1, 2],
  (.seq (.region false [] [⟨some 1, .box t_impl_Net 2 (.v 0), none⟩, ⟨some 2, .mov (.c (.bool false)), none⟩])
  (.seq (.region false [] [⟨none, .faddr 1 (.v 1), none⟩, ⟨none, .load false 1 (.r 0), none⟩, ⟨none, .call false f_slices_ContainsFunc_sl_impl_Trans_impl_Trans [(.r 1), (.c (.clo f_impl_hasResets_1 []))], none⟩, ⟨some 2, .mov (.r 2), none⟩])
  .ret)),
  [.v 2]⟩
def ir_impl_cloneNet : IFun := ⟨[0, 1, 2, 3, 5, 10, 11, 12, 13],
  (.seq (.region false [] [⟨some 1, .box t_impl_Net 2 (.v 0), none⟩, ⟨some 2, .alloc t_impl_Net [(.int .i64 0), (.nil false 3)], none⟩])
  (.seq (.region false [] [⟨none, .faddr 0 (.v 1), none⟩, ⟨none, .load false 1 (.r 0), none⟩, ⟨none, .build [(.int .i64 0), (.nil false 3)] [(0, 1, (.r 1))], none⟩, ⟨some 3, .alloc t_impl_Net [(.int .i64 0), (.nil false 3)], none⟩, ⟨none, .store 2 (.v 3) (.r 2), none⟩])
  (.seq (.seq (.region false [] [⟨none, .faddr 1 (.v 1), none⟩, ⟨some 5, .load false 1 (.r 0), none⟩, ⟨some 6, .len false (.v 5), none⟩, ⟨some 7, .mov (.c (.int .i64 0)), none⟩])
  (.block 0 (.loop [false, false, true, true, false, true, true, true, false] (.seq (.region false [] [⟨some 8, .bin false .lss (.v 7) (.v 6), none⟩])
  (.seq (.cond (.v 8) .skip (.exit 0))
  (.seq (.block 1 (.seq (.region false [] [⟨none, .iaddr 3 (.v 5) (.v 7), none⟩, ⟨none, .load true 3 (.r 0), none⟩, ⟨some 4, .alloc t_impl_Trans [(.nil true 1), (.nil true 1), (.nil true 1)], none⟩, ⟨none, .store 3 (.v 4) (.r 1), none⟩])
  (.region true [(8, 1), (8, 5), (8, 7), (9, 1), (9, 7), (10, 1), (12, 1)] [⟨none, .faddr 1 (.v 3), none⟩, ⟨none, .load false 1 (.r 0), none⟩, ⟨none, .faddr 0 (.v 4), none⟩, ⟨none, .load false 1 (.r 2), none⟩, ⟨none, .faddr 1 (.v 4), none⟩, ⟨none, .load false 1 (.r 4), none⟩, ⟨none, .faddr 2 (.v 4), none⟩, ⟨none, .load false 1 (.r 6), none⟩, ⟨none, .call false f_slices_Clone_sl_int_int [(.r 3)], none⟩, ⟨none, .call false f_slices_Clone_sl_int_int [(.r 5)], none⟩, ⟨none, .call false f_slices_Clone_sl_int_int [(.r 7)], none⟩, ⟨none, .build [(.nil true 1), (.nil true 1), (.nil true 1)] [(0, 1, (.r 8)), (1, 1, (.r 9)), (2, 1, (.r 10))], none⟩, ⟨none, .bslice false t_impl_Trans false 3 [(.r 11)], none⟩, ⟨none, .append t_impl_Trans false 3 (.r 1) (.r 12), none⟩, ⟨none, .faddr 1 (.v 3), none⟩, ⟨none, .store 1 (.r 14) (.r 13), none⟩])))
  (.region false [] [⟨none, .bin false .add (.v 7) (.c (.int .i64 1)), none⟩, ⟨some 7, .mov (.r 0), none⟩])))))))
  (.seq (.region false [] [⟨none, .load true 2 (.v 3), none⟩, ⟨none, .store 2 (.v 2) (.r 0), none⟩])
  .ret)))),
  [.cell true 2 2]⟩
def ir_impl_checkedNet : IFun := ⟨[0, 1, 2, 3, 6],
  (.seq (.region false [] [⟨some 1, .box t_impl_Net 2 (.v 0), none⟩, ⟨some 2, .alloc t_impl_Net [(.int .i64 0), (.nil false 3)], none⟩, ⟨some 3, .mov (.c (.bool false)), none⟩])
  (.seq (.seq (.region false [] [⟨none, .load true 2 (.v 1), none⟩, ⟨none, .call false f_impl_GoodNet [(.r 0)], none⟩, ⟨some 4, .not (.r 1), none⟩])
  (.cond (.v 4) (.seq (.region false [] [⟨none, .build [(.int .i64 0), (.nil false 3)] [], none⟩, ⟨none, .store 2 (.v 2) (.r 0), none⟩, ⟨some 3, .mov (.c (.bool false)), none⟩])
  .ret) .skip))
  (.seq (.region false [] [⟨none, .load true 2 (.v 1), none⟩, ⟨none, .store 2 (.v 2) (.r 0), none⟩, ⟨some 3, .mov (.c (.bool true)), none⟩])
  .ret))),
  [.cell true 2 2, .v 3]⟩
def ir_impl_TurnNet : IFun := ⟨[0, 1, 2, 3, 4, 5, 6, 13, 18, 19, 20, 21],
  (.seq (.region false [] [⟨some 1, .box t_impl_Net 2 (.v 0), none⟩, ⟨some 2, .alloc t_impl_Net [(.int .i64 0), (.nil false 3)], none⟩, ⟨some 3, .mov (.c (.bool false)), none⟩])
  (.seq (.seq (.region false [] [⟨none, .load true 2 (.v 1), none⟩, ⟨none, .call false f_impl_GoodNet [(.r 0)], none⟩, ⟨none, .not (.r 1), none⟩, ⟨none, .mov (.r 2), none⟩, ⟨none, .load true 2 (.v 1), some (3, false)⟩, ⟨none, .call false f_impl_hasResets [(.r 4)], some (3, false)⟩, ⟨some 7, .pick (.r 3) (.c (.bool true)) (.r 5), none⟩])
  (.cond (.v 7) (.seq (.region false [] [⟨none, .build [(.int .i64 0), (.nil false 3)] [], none⟩, ⟨none, .store 2 (.v 2) (.r 0), none⟩, ⟨some 3, .mov (.c (.bool false)), none⟩])
  .ret) .skip))
  (.seq (.region false [] [⟨none, .load true 2 (.v 1), none⟩, ⟨none, .call false f_impl_cloneNet [(.r 0)], none⟩, ⟨some 4, .alloc t_impl_Net [(.int .i64 0), (.nil false 3)], none⟩, ⟨none, .store 2 (.v 4) (.r 1), none⟩])
  (.seq (.seq (.region false [] [⟨none, .faddr 1 (.v 4), none⟩, ⟨some 8, .load false 1 (.r 0), none⟩, ⟨some 9, .len false (.v 8), none⟩, ⟨some 10, .mov (.c (.int .i64 0)), none⟩])
  (.block 0 (.loop [false, false, true, false, true, false, false, false, true, true, true, false] (.seq (.region false [] [⟨some 11, .bin false .lss (.v 10) (.v 9), none⟩])
  (.seq (.cond (.v 11) .skip (.exit 0))
  (.seq (.block 1 (.seq (.region false [] [⟨none, .mov (.v 10), none⟩, ⟨none, .iaddr 3 (.v 8) (.v 10), none⟩, ⟨none, .load true 3 (.r 1), none⟩, ⟨some 6, .alloc t_impl_Trans [(.nil true 1), (.nil true 1), (.nil true 1)], none⟩, ⟨some 5, .mov (.r 0), none⟩, ⟨none, .store 3 (.v 6) (.r 2), none⟩])
  (.region true [(12, 4), (12, 9)] [⟨none, .faddr 1 (.v 4), none⟩, ⟨none, .load false 1 (.r 0), none⟩, ⟨none, .mov (.v 5), none⟩, ⟨none, .faddr 1 (.v 4), none⟩, ⟨none, .load false 1 (.r 3), none⟩, ⟨none, .mov (.v 5), none⟩, ⟨none, .faddr 1 (.v 6), none⟩, ⟨none, .load false 1 (.r 6), none⟩, ⟨none, .faddr 0 (.v 6), none⟩, ⟨none, .load false 1 (.r 8), none⟩, ⟨none, .iaddr 3 (.r 1) (.r 2), none⟩, ⟨none, .faddr 0 (.r 10), none⟩, ⟨none, .store 1 (.r 11) (.r 7), none⟩, ⟨none, .iaddr 3 (.r 4) (.r 5), none⟩, ⟨none, .faddr 1 (.r 13), none⟩, ⟨none, .store 1 (.r 14) (.r 9), none⟩])))
  (.region false [] [⟨none, .bin false .add (.v 10) (.c (.int .i64 1)), none⟩, ⟨some 10, .mov (.r 0), none⟩])))))))
  (.seq (.region false [] [⟨none, .load true 2 (.v 4), none⟩, ⟨none, .call false f_impl_checkedNet [(.r 0)], none⟩, ⟨none, .extract (.r 1) 0, none⟩, ⟨none, .extract (.r 1) 1, none⟩, ⟨none, .store 2 (.v 2) (.r 2), none⟩, ⟨some 3, .mov (.r 3), none⟩])
  .ret))))),
  [.cell true 2 2, .v 3]⟩
def ir_spec_l1In : IFun := ⟨[0, 1, 2, 6],
  (.seq (.region false [] [⟨some 3, .mov (.c (.bool false)), none⟩])
  (.seq (.region false [] [⟨none, .mov (.v 0), none⟩, ⟨none, .mov (.v 1), none⟩, ⟨none, .bin false .geq (.r 0) (.r 1), none⟩, ⟨none, .mov (.r 2), none⟩, ⟨none, .mov (.v 0), some (3, true)⟩, ⟨none, .mov (.v 2), some (3, true)⟩, ⟨none, .bin false .leq (.r 4) (.r 5), some (3, true)⟩, ⟨none, .pick (.r 3) (.r 6) (.c (.bool false)), none⟩, ⟨some 3, .mov (.r 7), none⟩])
  .ret)),
  [.v 3]⟩
def ir_spec_l1Places : IFun := ⟨[0, 2],
  (.seq (.region false [] [⟨some 1, .mov (.c (.bool false)), none⟩])
  (.seq (.region false [] [⟨none, .mov (.v 0), none⟩, ⟨none, .call false f_spec_l1In [(.r 0), (.c (.int .i64 1)), (.c (.int .i64 16))], none⟩, ⟨some 1, .mov (.r 1), none⟩])
  .ret)),
  [.v 1]⟩
def ir_spec_l1Rising : IFun := ⟨[0, 1, 2, 6, 7, 8, 9, 10, 11, 12, 33],
  (.seq (.region false [] [⟨some 3, .mov (.c (.bool false)), none⟩])
  (.seq (.seq (.region false [] [⟨some 6, .mov (.v 0), none⟩, ⟨some 7, .len false (.v 6), none⟩, ⟨some 8, .mov (.c (.int .i64 0)), none⟩])
  (.block 0 (.loop [true, true, true, false, false, false, true, true, true, false, false] (.seq (.region false [] [⟨some 9, .bin false .lss (.v 8) (.v 7), none⟩])
  (.seq (.cond (.v 9) .skip (.exit 0))
  (.seq (.block 1 (.seq (.region false [] [⟨none, .mov (.v 8), none⟩, ⟨none, .iaddr 1 (.v 6) (.v 8), none⟩, ⟨none, .load false 1 (.r 1), none⟩, ⟨some 4, .mov (.r 0), none⟩, ⟨some 5, .mov (.r 2), none⟩])
  (.seq (.region false [] [⟨none, .mov (.v 5), none⟩, ⟨none, .mov (.v 1), none⟩, ⟨none, .mov (.v 2), none⟩, ⟨none, .call false f_spec_l1In [(.r 0), (.r 1), (.r 2)], none⟩, ⟨none, .not (.r 3), none⟩, ⟨none, .mov (.r 4), none⟩, ⟨none, .mov (.v 4), some (5, false)⟩, ⟨none, .bin false .gtr (.r 6) (.c (.int .i64 0)), some (5, false)⟩, ⟨none, .mov (.r 7), some (5, false)⟩, ⟨none, .mov (.v 0), some (8, true)⟩, ⟨none, .mov (.v 4), some (8, true)⟩, ⟨none, .bin false .sub (.r 10) (.c (.int .i64 1)), some (8, true)⟩, ⟨none, .iaddr 1 (.r 9) (.r 11), some (8, true)⟩, ⟨none, .load false 1 (.r 12), some (8, true)⟩, ⟨none, .mov (.v 5), some (8, true)⟩, ⟨none, .bin false .geq (.r 13) (.r 14), some (8, true)⟩, ⟨none, .pick (.r 8) (.r 15) (.c (.bool false)), some (5, false)⟩, ⟨some 10, .pick (.r 5) (.c (.bool true)) (.r 16), none⟩])
  (.cond (.v 10) (.seq (.region false [] [⟨some 3, .mov (.c (.bool false)), none⟩])
  .ret) .skip))))
  (.region false [] [⟨none, .bin false .add (.v 8) (.c (.int .i64 1)), none⟩, ⟨some 8, .mov (.r 0), none⟩])))))))
  (.seq (.region false [] [⟨some 3, .mov (.c (.bool true)), none⟩])
  .ret))),
  [.v 3]⟩
def ir_spec_GoodNet : IFun := ⟨[0, 1, 2, 4, 14, 16, 17, 18, 19, 52],
  (.seq (.region false [] [⟨some 1, .box t_impl_Net 2 (.v 0), none⟩, ⟨some 2, .mov (.c (.bool false)), none⟩])
  (.seq (.seq (.region false [] [⟨none, .faddr 0 (.v 1), none⟩, ⟨none, .load false 1 (.r 0), none⟩, ⟨none, .call false f_spec_l1Places [(.r 1)], none⟩, ⟨none, .not (.r 2), none⟩, ⟨none, .mov (.r 3), none⟩, ⟨none, .faddr 1 (.v 1), some (4, false)⟩, ⟨none, .load false 1 (.r 5), some (4, false)⟩, ⟨none, .len false (.r 6), some (4, false)⟩, ⟨none, .bin false .gtr (.r 7) (.c (.int .i64 24)), some (4, false)⟩, ⟨some 4, .pick (.r 4) (.c (.bool true)) (.r 8), none⟩])
  (.cond (.v 4) (.seq (.region false [] [⟨some 2, .mov (.c (.bool false)), none⟩])
  .ret) .skip))
  (.seq (.seq (.region false [] [⟨none, .faddr 1 (.v 1), none⟩, ⟨some 5, .load false 1 (.r 0), none⟩, ⟨some 6, .len false (.v 5), none⟩, ⟨some 7, .mov (.c (.int .i64 0)), none⟩])
  (.block 0 (.loop [false, true, false, false, false, true, true, true, false, false] (.seq (.region false [] [⟨some 8, .bin false .lss (.v 7) (.v 6), none⟩])
  (.seq (.cond (.v 8) .skip (.exit 0))
  (.seq (.block 1 (.seq (.region false [] [⟨none, .iaddr 3 (.v 5) (.v 7), none⟩, ⟨none, .load true 3 (.r 0), none⟩, ⟨some 3, .alloc t_impl_Trans [(.nil true 1), (.nil true 1), (.nil true 1)], none⟩, ⟨none, .store 3 (.v 3) (.r 1), none⟩])
  (.seq (.region false [] [⟨none, .faddr 0 (.v 3), none⟩, ⟨none, .load false 1 (.r 0), none⟩, ⟨none, .len false (.r 1), none⟩, ⟨none, .bin false .eql (.r 2) (.c (.int .i64 0)), none⟩, ⟨none, .mov (.r 3), none⟩, ⟨none, .faddr 0 (.v 3), some (4, false)⟩, ⟨none, .load false 1 (.r 5), some (4, false)⟩, ⟨none, .faddr 0 (.v 1), some (4, false)⟩, ⟨none, .load false 1 (.r 7), some (4, false)⟩, ⟨none, .bin false .sub (.r 8) (.c (.int .i64 1)), some (4, false)⟩, ⟨none, .call false f_spec_l1Rising [(.r 6), (.c (.int .i64 0)), (.r 9)], some (4, false)⟩, ⟨none, .not (.r 10), some (4, false)⟩, ⟨none, .pick (.r 4) (.c (.bool true)) (.r 11), none⟩, ⟨none, .mov (.r 12), none⟩, ⟨none, .faddr 1 (.v 3), some (13, false)⟩, ⟨none, .load false 1 (.r 14), some (13, false)⟩, ⟨none, .faddr 0 (.v 1), some (13, false)⟩, ⟨none, .load false 1 (.r 16), some (13, false)⟩, ⟨none, .bin false .sub (.r 17) (.c (.int .i64 1)), some (13, false)⟩, ⟨none, .call false f_spec_l1Rising [(.r 15), (.c (.int .i64 0)), (.r 18)], some (13, false)⟩, ⟨none, .not (.r 19), some (13, false)⟩, ⟨none, .pick (.r 13) (.c (.bool true)) (.r 20), none⟩, ⟨none, .mov (.r 21), none⟩, ⟨none, .faddr 2 (.v 3), some (22, false)⟩, ⟨none, .load false 1 (.r 23), some (22, false)⟩, ⟨none, .faddr 0 (.v 1), some (22, false)⟩, ⟨none, .load false 1 (.r 25), some (22, false)⟩, ⟨none, .bin false .sub (.r 26) (.c (.int .i64 1)), some (22, false)⟩, ⟨none, .call false f_spec_l1Rising [(.r 24), (.c (.int .i64 0)), (.r 27)], some (22, false)⟩, ⟨none, .not (.r 28), some (22, false)⟩, ⟨some 9, .pick (.r 22) (.c (.bool true)) (.r 29), none⟩])
  (.cond (.v 9) (.seq (.region false [] [⟨some 2, .mov (.c (.bool false)), none⟩])
  .ret) .skip))))
  (.region false [] [⟨none, .bin false .add (.v 7) (.c (.int .i64 1)), none⟩, ⟨some 7, .mov (.r 0), none⟩])))))))
  (.seq (.region false [] [⟨some 2, .mov (.c (.bool true)), none⟩])
  .ret)))),
  [.v 2]⟩
def ir_spec_l2Resets : IFun := ⟨[0, 1, 2, 4, 6, 7, 8, 9, 15],
  (.seq (.region false [] [⟨some 1, .box t_impl_Net 2 (.v 0), none⟩, ⟨some 2, .mov (.c (.bool false)), none⟩])
  (.seq (.seq (.region false [] [⟨none, .faddr 1 (.v 1), none⟩, ⟨some 4, .load false 1 (.r 0), none⟩, ⟨some 5, .len false (.v 4), none⟩, ⟨some 6, .mov (.c (.int .i64 0)), none⟩])
  (.block 0 (.loop [false, false, false, false, true, true, true, false, false] (.seq (.region false [] [⟨some 7, .bin false .lss (.v 6) (.v 5), none⟩])
  (.seq (.cond (.v 7) .skip (.exit 0))
  (.seq (.block 1 (.seq (.region false [] [⟨none, .iaddr 3 (.v 4) (.v 6), none⟩, ⟨none, .load true 3 (.r 0), none⟩, ⟨some 3, .alloc t_impl_Trans [(.nil true 1), (.nil true 1), (.nil true 1)], none⟩, ⟨none, .store 3 (.v 3) (.r 1), none⟩])
  (.seq (.region false [] [⟨none, .faddr 2 (.v 3), none⟩, ⟨none, .load false 1 (.r 0), none⟩, ⟨none, .len false (.r 1), none⟩, ⟨some 8, .bin false .gtr (.r 2) (.c (.int .i64 0)), none⟩])
  (.cond (.v 8) (.seq (.region false [] [⟨some 2, .mov (.c (.bool true)), none⟩])
  .ret) .skip))))
  (.region false [] [⟨none, .bin false .add (.v 6) (.c (.int .i64 1)), none⟩, ⟨some 6, .mov (.r 0), none⟩])))))))
  (.seq (.region false [] [⟨some 2, .mov (.c (.bool false)), none⟩])
  .ret))),
  [.v 2]⟩
def ir_spec_l1Own : IFun := ⟨[0, 2],
  (.seq (.region false [] [⟨some 1, .nilrow t_int true 1, none⟩])
  (.seq (.region false [] [⟨none, .bslice false t_int true 1 [], none⟩, ⟨none, .mov (.v 0), none⟩, ⟨none, .append t_int true 1 (.r 0) (.r 1), none⟩, ⟨some 1, .mov (.r 2), none⟩])
  .ret)),
  [.v 1]⟩
def ir_spec_TurnNet : IFun := ⟨[0, 1, 2, 3, 4, 6, 13, 19, 20, 21, 22, 40],
  (.seq (.region false [] [⟨some 1, .box t_impl_Net 2 (.v 0), none⟩, ⟨some 2, .alloc t_impl_Net [(.int .i64 0), (.nil false 3)], none⟩, ⟨some 3, .mov (.c (.bool false)), none⟩])
  (.seq (.seq (.region false [] [⟨none, .load true 2 (.v 1), none⟩, ⟨none, .call false f_spec_GoodNet [(.r 0)], none⟩, ⟨none, .not (.r 1), none⟩, ⟨none, .mov (.r 2), none⟩, ⟨none, .load true 2 (.v 1), some (3, false)⟩, ⟨none, .call false f_spec_l2Resets [(.r 4)], some (3, false)⟩, ⟨some 6, .pick (.r 3) (.c (.bool true)) (.r 5), none⟩])
  (.cond (.v 6) (.seq (.region false [] [⟨none, .build [(.int .i64 0), (.nil false 3)] [], none⟩, ⟨none, .store 2 (.v 2) (.r 0), none⟩, ⟨some 3, .mov (.c (.bool false)), none⟩])
  .ret) .skip))
  (.seq (.region false [] [⟨none, .faddr 0 (.v 1), none⟩, ⟨none, .load false 1 (.r 0), none⟩, ⟨none, .build [(.int .i64 0), (.nil false 3)] [(0, 1, (.r 1))], none⟩, ⟨some 4, .alloc t_impl_Net [(.int .i64 0), (.nil false 3)], none⟩, ⟨none, .store 2 (.v 4) (.r 2), none⟩])
  (.seq (.seq (.region false [] [⟨none, .faddr 1 (.v 1), none⟩, ⟨some 7, .load false 1 (.r 0), none⟩, ⟨some 8, .len false (.v 7), none⟩, ⟨some 9, .mov (.c (.int .i64 0)), none⟩])
  (.block 0 (.loop [false, false, true, false, true, false, false, true, true, true, false, false] (.seq (.region false [] [⟨some 10, .bin false .lss (.v 9) (.v 8), none⟩])
  (.seq (.cond (.v 10) .skip (.exit 0))
  (.seq (.block 1 (.seq (.region false [] [⟨none, .iaddr 3 (.v 7) (.v 9), none⟩, ⟨none, .load true 3 (.r 0), none⟩, ⟨some 5, .alloc t_impl_Trans [(.nil true 1), (.nil true 1), (.nil true 1)], none⟩, ⟨none, .store 3 (.v 5) (.r 1), none⟩])
  (.region true [(6, 1), (6, 5), (7, 1), (9, 1)] [⟨none, .faddr 1 (.v 4), none⟩, ⟨none, .load false 1 (.r 0), none⟩, ⟨none, .faddr 1 (.v 5), none⟩, ⟨none, .load false 1 (.r 2), none⟩, ⟨none, .faddr 0 (.v 5), none⟩, ⟨none, .load false 1 (.r 4), none⟩, ⟨none, .call false f_spec_l1Own [(.r 3)], none⟩, ⟨none, .call false f_spec_l1Own [(.r 5)], none⟩, ⟨none, .build [(.nil true 1), (.nil true 1), (.nil true 1)] [(0, 1, (.r 6)), (1, 1, (.r 7))], none⟩, ⟨none, .bslice false t_impl_Trans false 3 [(.r 8)], none⟩, ⟨none, .append t_impl_Trans false 3 (.r 1) (.r 9), none⟩, ⟨none, .faddr 1 (.v 4), none⟩, ⟨none, .store 1 (.r 11) (.r 10), none⟩])))
  (.region false [] [⟨none, .bin false .add (.v 9) (.c (.int .i64 1)), none⟩, ⟨some 9, .mov (.r 0), none⟩])))))))
  (.seq (.seq (.region false [] [⟨none, .load true 2 (.v 4), none⟩, ⟨none, .call false f_spec_GoodNet [(.r 0)], none⟩, ⟨some 11, .not (.r 1), none⟩])
  (.cond (.v 11) (.seq (.region false [] [⟨none, .build [(.int .i64 0), (.nil false 3)] [], none⟩, ⟨none, .store 2 (.v 2) (.r 0), none⟩, ⟨some 3, .mov (.c (.bool false)), none⟩])
  .ret) .skip))
  (.seq (.region false [] [⟨none, .load true 2 (.v 4), none⟩, ⟨none, .store 2 (.v 2) (.r 0), none⟩, ⟨some 3, .mov (.c (.bool true)), none⟩])
  .ret)))))),
  [.cell true 2 2, .v 3]⟩
def ir_laws_sameInts : IFun := ⟨[0, 1, 4, 5, 10, 12, 13, 14, 24],
  (.seq (.region false [] [⟨some 2, .mov (.c (.bool false)), none⟩])
  (.seq (.seq (.region false [] [⟨none, .mov (.v 0), none⟩, ⟨none, .len false (.r 0), none⟩, ⟨none, .mov (.v 1), none⟩, ⟨none, .len false (.r 2), none⟩, ⟨some 4, .bin false .neq (.r 1) (.r 3), none⟩])
  (.cond (.v 4) (.seq (.region false [] [⟨some 2, .mov (.c (.bool false)), none⟩])
  .ret) .skip))
  (.seq (.seq (.region false [] [⟨none, .mov (.v 0), none⟩, ⟨some 5, .len false (.r 0), none⟩, ⟨some 6, .mov (.c (.int .i64 0)), none⟩])
  (.block 0 (.loop [true, true, false, false, false, true, true, false, false] (.seq (.region false [] [⟨some 7, .bin false .lss (.v 6) (.v 5), none⟩])
  (.seq (.cond (.v 7) .skip (.exit 0))
  (.seq (.block 1 (.seq (.region false [] [⟨none, .mov (.v 6), none⟩, ⟨some 3, .mov (.r 0), none⟩])
  (.seq (.region true [] [⟨none, .mov (.v 0), none⟩, ⟨none, .mov (.v 3), none⟩, ⟨none, .iaddr 1 (.r 0) (.r 1), none⟩, ⟨none, .load false 1 (.r 2), none⟩, ⟨none, .mov (.v 1), none⟩, ⟨none, .mov (.v 3), none⟩, ⟨none, .iaddr 1 (.r 4) (.r 5), none⟩, ⟨none, .load false 1 (.r 6), none⟩, ⟨some 8, .bin false .neq (.r 3) (.r 7), none⟩])
  (.cond (.v 8) (.seq (.region false [] [⟨some 2, .mov (.c (.bool false)), none⟩])
  .ret) .skip))))
  (.region false [] [⟨none, .bin false .add (.v 6) (.c (.int .i64 1)), none⟩, ⟨some 6, .mov (.r 0), none⟩])))))))
  (.seq (.region false [] [⟨some 2, .mov (.c (.bool true)), none⟩])
  .ret)))),
  [.v 2]⟩
def ir_laws_sameNet : IFun := ⟨[0, 1, 2, 3, 4, 5, 6, 7, 21, 23, 24, 25, 26, 56],
  (.seq (.region false [] [⟨some 2, .box t_impl_Net 2 (.v 0), none⟩, ⟨some 3, .box t_impl_Net 2 (.v 1), none⟩, ⟨some 4, .mov (.c (.bool false)), none⟩])
  (.seq (.seq (.region false [] [⟨none, .faddr 0 (.v 2), none⟩, ⟨none, .load false 1 (.r 0), none⟩, ⟨none, .faddr 0 (.v 3), none⟩, ⟨none, .load false 1 (.r 2), none⟩, ⟨none, .bin false .neq (.r 1) (.r 3), none⟩, ⟨none, .mov (.r 4), none⟩, ⟨none, .faddr 1 (.v 2), some (5, false)⟩, ⟨none, .load false 1 (.r 6), some (5, false)⟩, ⟨none, .len false (.r 7), some (5, false)⟩, ⟨none, .faddr 1 (.v 3), some (5, false)⟩, ⟨none, .load false 1 (.r 9), some (5, false)⟩, ⟨none, .len false (.r 10), some (5, false)⟩, ⟨none, .bin false .neq (.r 8) (.r 11), some (5, false)⟩, ⟨some 8, .pick (.r 5) (.c (.bool true)) (.r 12), none⟩])
  (.cond (.v 8) (.seq (.region false [] [⟨some 4, .mov (.c (.bool false)), none⟩])
  .ret) .skip))
  (.seq (.seq (.region false [] [⟨none, .faddr 1 (.v 2), none⟩, ⟨some 9, .load false 1 (.r 0), none⟩, ⟨some 10, .len false (.v 9), none⟩, ⟨some 11, .mov (.c (.int .i64 0)), none⟩])
  (.block 0 (.loop [false, false, false, true, false, false, false, false, false, true, true, true, false, false] (.seq (.region false [] [⟨some 12, .bin false .lss (.v 11) (.v 10), none⟩])
  (.seq (.cond (.v 12) .skip (.exit 0))
  (.seq (.block 1 (.seq (.region false [] [⟨none, .mov (.v 11), none⟩, ⟨none, .iaddr 3 (.v 9) (.v 11), none⟩, ⟨none, .load true 3 (.r 1), none⟩, ⟨some 6, .alloc t_impl_Trans [(.nil true 1), (.nil true 1), (.nil true 1)], none⟩, ⟨some 5, .mov (.r 0), none⟩, ⟨none, .store 3 (.v 6) (.r 2), none⟩])
  (.seq (.region false [] [⟨none, .faddr 1 (.v 3), none⟩, ⟨none, .load false 1 (.r 0), none⟩, ⟨none, .mov (.v 5), none⟩, ⟨none, .iaddr 3 (.r 1) (.r 2), none⟩, ⟨none, .load true 3 (.r 3), none⟩, ⟨some 7, .alloc t_impl_Trans [(.nil true 1), (.nil true 1), (.nil true 1)], none⟩, ⟨none, .store 3 (.v 7) (.r 4), none⟩])
  (.seq (.region false [] [⟨none, .faddr 0 (.v 6), none⟩, ⟨none, .load false 1 (.r 0), none⟩, ⟨none, .faddr 0 (.v 7), none⟩, ⟨none, .load false 1 (.r 2), none⟩, ⟨none, .call false f_laws_sameInts [(.r 1), (.r 3)], none⟩, ⟨none, .not (.r 4), none⟩, ⟨none, .mov (.r 5), none⟩, ⟨none, .faddr 1 (.v 6), some (6, false)⟩, ⟨none, .load false 1 (.r 7), some (6, false)⟩, ⟨none, .faddr 1 (.v 7), some (6, false)⟩, ⟨none, .load false 1 (.r 9), some (6, false)⟩, ⟨none, .call false f_laws_sameInts [(.r 8), (.r 10)], some (6, false)⟩, ⟨none, .not (.r 11), some (6, false)⟩, ⟨none, .pick (.r 6) (.c (.bool true)) (.r 12), none⟩, ⟨none, .mov (.r 13), none⟩, ⟨none, .faddr 2 (.v 6), some (14, false)⟩, ⟨none, .load false 1 (.r 15), some (14, false)⟩, ⟨none, .faddr 2 (.v 7), some (14, false)⟩, ⟨none, .load false 1 (.r 17), some (14, false)⟩, ⟨none, .call false f_laws_sameInts [(.r 16), (.r 18)], some (14, false)⟩, ⟨none, .not (.r 19), some (14, false)⟩, ⟨some 13, .pick (.r 14) (.c (.bool true)) (.r 20), none⟩])
  (.cond (.v 13) (.seq (.region false [] [⟨some 4, .mov (.c (.bool false)), none⟩])
  .ret) .skip)))))
  (.region false [] [⟨none, .bin false .add (.v 11) (.c (.int .i64 1)), none⟩, ⟨some 11, .mov (.r 0), none⟩])))))))
  (.seq (.region false [] [⟨some 4, .mov (.c (.bool true)), none⟩])
  .ret)))),
  [.v 4]⟩
def ir_laws_numberOf : IFun := ⟨[0, 2, 3, 5, 6, 7, 8, 9],
  (.seq (.region false [] [⟨some 1, .mov (.c (.int .i64 0)), none⟩])
  (.seq (.region false [] [⟨some 2, .mov (.c (.int .i64 0)), none⟩])
  (.seq (.seq (.region false [] [⟨some 4, .mov (.v 0), none⟩, ⟨some 5, .len false (.v 4), none⟩, ⟨some 6, .mov (.c (.int .i64 0)), none⟩])
  (.block 0 (.loop [false, false, true, false, true, true, true, false] (.seq (.region false [] [⟨some 7, .bin false .lss (.v 6) (.v 5), none⟩])
  (.seq (.cond (.v 7) .skip (.exit 0))
  (.seq (.block 1 (.seq (.region false [] [⟨none, .iaddr 1 (.v 4) (.v 6), none⟩, ⟨none, .load false 1 (.r 0), none⟩, ⟨some 3, .mov (.r 1), none⟩])
  (.region false [] [⟨none, .mov (.v 2), none⟩, ⟨none, .bin false .mul (.c (.int .i64 31)) (.r 0), none⟩, ⟨none, .mov (.v 3), none⟩, ⟨none, .conv .i64 (.r 2), none⟩, ⟨none, .bin false .add (.r 1) (.r 3), none⟩, ⟨none, .bin false .rem (.r 4) (.c (.int .i64 1000003)), none⟩, ⟨some 2, .mov (.r 5), none⟩])))
  (.region false [] [⟨none, .bin false .add (.v 6) (.c (.int .i64 1)), none⟩, ⟨some 6, .mov (.r 0), none⟩])))))))
  (.seq (.region false [] [⟨none, .mov (.v 2), none⟩, ⟨some 1, .mov (.r 0), none⟩])
  .ret)))),
  [.v 1]⟩
def ir_impl_GoodMark : IFun := ⟨[0, 1, 4],
  (.seq (.region false [] [⟨some 2, .mov (.c (.bool false)), none⟩])
  (.seq (.region false [] [⟨none, .mov (.v 0), none⟩, ⟨none, .call false f_impl_within [(.r 0), (.c (.int .i64 1)), (.c (.int .i64 16))], none⟩, ⟨none, .mov (.r 1), none⟩, ⟨none, .mov (.v 1), some (2, true)⟩, ⟨none, .len false (.r 3), some (2, true)⟩, ⟨none, .mov (.v 0), some (2, true)⟩, ⟨none, .bin false .eql (.r 4) (.r 5), some (2, true)⟩, ⟨none, .pick (.r 2) (.r 6) (.c (.bool false)), none⟩, ⟨none, .mov (.r 7), none⟩, ⟨none, .mov (.v 1), some (8, true)⟩, ⟨none, .call false f_impl_allWithin [(.r 9), (.c (.int .i64 0)), (.c (.int .i64 50))], some (8, true)⟩, ⟨none, .pick (.r 8) (.r 10) (.c (.bool false)), none⟩, ⟨some 2, .mov (.r 11), none⟩])
  .ret)),
  [.v 2]⟩
def ir_impl_isMarked : IFun := ⟨[0, 1, 2, 4],
  (.seq (.region false [] [⟨some 2, .box t_impl_Net 2 (.v 0), none⟩, ⟨some 3, .mov (.c (.bool false)), none⟩])
  (.seq (.region false [] [⟨none, .load true 2 (.v 2), none⟩, ⟨none, .call false f_impl_GoodNet [(.r 0)], none⟩, ⟨none, .mov (.r 1), none⟩, ⟨none, .faddr 0 (.v 2), some (2, true)⟩, ⟨none, .load false 1 (.r 3), some (2, true)⟩, ⟨none, .mov (.v 1), some (2, true)⟩, ⟨none, .call false f_impl_GoodMark [(.r 4), (.r 5)], some (2, true)⟩, ⟨none, .pick (.r 2) (.r 6) (.c (.bool false)), none⟩, ⟨some 3, .mov (.r 7), none⟩])
  .ret)),
  [.v 3]⟩
def ir_impl_isTrans : IFun := ⟨[0, 1, 2, 4],
  (.seq (.region false [] [⟨some 2, .box t_impl_Net 2 (.v 0), none⟩, ⟨some 3, .mov (.c (.bool false)), none⟩])
  (.seq (.region false [] [⟨none, .mov (.v 1), none⟩, ⟨none, .faddr 1 (.v 2), none⟩, ⟨none, .load false 1 (.r 1), none⟩, ⟨none, .len false (.r 2), none⟩, ⟨none, .bin false .sub (.r 3) (.c (.int .i64 1)), none⟩, ⟨none, .call false f_impl_within [(.r 0), (.c (.int .i64 0)), (.r 4)], none⟩, ⟨some 3, .mov (.r 5), none⟩])
  .ret)),
  [.v 3]⟩
def ir_impl_isEnabled_1 : IFun := ⟨[0, 1, 3],
  (.seq (.region false [] [⟨some 2, .mov (.c (.bool false)), none⟩])
  (.seq (.region false [] [⟨none, .load false 1 (.v 1), none⟩, ⟨none, .mov (.v 0), none⟩, ⟨none, .iaddr 1 (.r 0) (.r 1), none⟩, ⟨none, .load false 1 (.r 2), none⟩, ⟨none, .bin false .eql (.r 3) (.c (.int .i64 0)), none⟩, ⟨some 2, .mov (.r 4), none⟩])
  .ret)),
  [.v 2]⟩
def ir_slices_IndexFunc_sl_int_int : IFun := ⟨[0, 1, 4, 5, 7, 8, 9, 16],
  (.seq (.region false [] [⟨some 2, .mov (.c (.int .i64 0)), none⟩])
  (.seq (.seq (.region false [] [⟨none, .mov (.v 0), none⟩, ⟨some 4, .len false (.r 0), none⟩, ⟨some 5, .mov (.c (.int .i64 0)), none⟩])
  (.block 0 (.loop [true, true, false, false, true, true, false, false] (.seq (.region false [] [⟨some 6, .bin false .lss (.v 5) (.v 4), none⟩])
  (.seq (.cond (.v 6) .skip (.exit 0))
  (.seq (.block 1 (.seq (.region false [] [⟨none, .mov (.v 5), none⟩, ⟨some 3, .mov (.r 0), none⟩])
  (.seq (.region false [] [⟨none, .mov (.v 1), none⟩, ⟨none, .mov (.v 0), none⟩, ⟨none, .mov (.v 3), none⟩, ⟨none, .iaddr 1 (.r 1) (.r 2), none⟩, ⟨none, .load false 1 (.r 3), none⟩, ⟨some 7, .callv false (.r 0) [(.r 4)], none⟩])
  (.cond (.v 7) (.seq (.region false [] [⟨none, .mov (.v 3), none⟩, ⟨some 2, .mov (.r 0), none⟩])
  .ret) .skip))))
  (.region false [] [⟨none, .bin false .add (.v 5) (.c (.int .i64 1)), none⟩, ⟨some 5, .mov (.r 0), none⟩])))))))
  (.seq (.region false [] [⟨some 2, .mov (.c (.int .i64 (-1))), none⟩])
  .ret))),
  [.v 2]⟩
def ir_slices_ContainsFunc_sl_int_int : IFun := ⟨[0, 1, 4],
  (.seq (.region false [] [⟨some 2, .mov (.c (.bool false)), none⟩])
  (.seq (.region false [] [⟨none, .mov (.v 0), none⟩, ⟨none, .mov (.v 1), none⟩, ⟨none, .call false f_slices_IndexFunc_sl_int_int [(.r 0), (.r 1)], none⟩, ⟨none, .bin false .geq (.r 2) (.c (.int .i64 0)), none⟩, ⟨some 2, .mov (.r 3), none⟩])
  .ret)),
  [.v 2]⟩
def ir_impl_isEnabled : IFun := ⟨[0, 1, 2, 3, 4],
  (.seq (.region false [] [⟨some 2, .box t_impl_Trans 3 (.v 0), none⟩, ⟨some 3, .box t_sl_int 1 (.v 1), none⟩, ⟨some 4, .mov (.c (.bool false)), none⟩])
  (.seq (.region false [] [⟨none, .faddr 0 (.v 2), none⟩, ⟨none, .load false 1 (.r 0), none⟩, ⟨none, .mkfn f_impl_isEnabled_1 [(.v 3)], none⟩, ⟨none, .call false f_slices_ContainsFunc_sl_int_int [(.r 1), (.r 2)], none⟩, ⟨none, .not (.r 3), none⟩, ⟨some 4, .mov (.r 4), none⟩])
  .ret)),
  [.v 4]⟩
def ir_impl_fired : IFun := ⟨[0, 1, 2, 4, 5, 7, 9, 11, 15, 16, 17, 18, 29, 30, 31, 32, 40, 41, 42, 43],
  (.seq (.region false [] [⟨some 2, .box t_impl_Trans 3 (.v 0), none⟩, ⟨some 3, .nilrow t_int true 1, none⟩])
  (.seq (.region false [] [⟨none, .mov (.v 1), none⟩, ⟨none, .call false f_slices_Clone_sl_int_int [(.r 0)], none⟩, ⟨some 4, .mov (.r 1), none⟩])
  (.seq (.seq (.region false [] [⟨none, .faddr 0 (.v 2), none⟩, ⟨some 8, .load false 1 (.r 0), none⟩, ⟨some 9, .len false (.v 8), none⟩, ⟨some 10, .mov (.c (.int .i64 0)), none⟩])
  (.block 0 (.loop [false, false, true, false, true, false, false, false, true, true, true, false, false, false, false, false, false, false, false, false] (.seq (.region false [] [⟨some 11, .bin false .lss (.v 10) (.v 9), none⟩])
  (.seq (.cond (.v 11) .skip (.exit 0))
  (.seq (.block 1 (.seq (.region false [] [⟨none, .iaddr 1 (.v 8) (.v 10), none⟩, ⟨none, .load false 1 (.r 0), none⟩, ⟨some 5, .mov (.r 1), none⟩])
  (.region false [] [⟨none, .mov (.v 4), none⟩, ⟨none, .mov (.v 5), none⟩, ⟨none, .iaddr 1 (.r 0) (.r 1), none⟩, ⟨none, .load false 1 (.r 2), none⟩, ⟨none, .bin false .sub (.r 3) (.c (.int .i64 1)), none⟩, ⟨none, .iaddr 1 (.r 0) (.r 1), none⟩, ⟨none, .store 1 (.r 5) (.r 4), none⟩])))
  (.region false [] [⟨none, .bin false .add (.v 10) (.c (.int .i64 1)), none⟩, ⟨some 10, .mov (.r 0), none⟩])))))))
  (.seq (.seq (.region false [] [⟨none, .faddr 2 (.v 2), none⟩, ⟨some 12, .load false 1 (.r 0), none⟩, ⟨some 13, .len false (.v 12), none⟩, ⟨some 14, .mov (.c (.int .i64 0)), none⟩])
  (.block 2 (.loop [false, false, true, false, true, false, false, false, false, false, false, false, true, true, true, false, false, false, false, false] (.seq (.region false [] [⟨some 15, .bin false .lss (.v 14) (.v 13), none⟩])
  (.seq (.cond (.v 15) .skip (.exit 2))
  (.seq (.block 3 (.seq (.region false [] [⟨none, .iaddr 1 (.v 12) (.v 14), none⟩, ⟨none, .load false 1 (.r 0), none⟩, ⟨some 6, .mov (.r 1), none⟩])
  (.region false [] [⟨none, .mov (.v 4), none⟩, ⟨none, .mov (.v 6), none⟩, ⟨none, .iaddr 1 (.r 0) (.r 1), none⟩, ⟨none, .store 1 (.r 2) (.c (.int .i64 0)), none⟩])))
  (.region false [] [⟨none, .bin false .add (.v 14) (.c (.int .i64 1)), none⟩, ⟨some 14, .mov (.r 0), none⟩])))))))
  (.seq (.seq (.region false [] [⟨none, .faddr 1 (.v 2), none⟩, ⟨some 16, .load false 1 (.r 0), none⟩, ⟨some 17, .len false (.v 16), none⟩, ⟨some 18, .mov (.c (.int .i64 0)), none⟩])
  (.block 4 (.loop [false, false, false, false, true, false, false, false, false, false, false, false, false, false, false, false, true, true, true, false] (.seq (.region false [] [⟨some 19, .bin false .lss (.v 18) (.v 17), none⟩])
  (.seq (.cond (.v 19) .skip (.exit 4))
  (.seq (.block 5 (.seq (.region false [] [⟨none, .iaddr 1 (.v 16) (.v 18), none⟩, ⟨none, .load false 1 (.r 0), none⟩, ⟨some 7, .mov (.r 1), none⟩])
  (.region false [] [⟨none, .mov (.v 4), none⟩, ⟨none, .mov (.v 7), none⟩, ⟨none, .iaddr 1 (.r 0) (.r 1), none⟩, ⟨none, .load false 1 (.r 2), none⟩, ⟨none, .bin false .add (.r 3) (.c (.int .i64 1)), none⟩, ⟨none, .iaddr 1 (.r 0) (.r 1), none⟩, ⟨none, .store 1 (.r 5) (.r 4), none⟩])))
  (.region false [] [⟨none, .bin false .add (.v 18) (.c (.int .i64 1)), none⟩, ⟨some 18, .mov (.r 0), none⟩])))))))
  (.seq (.region false [] [⟨none, .mov (.v 4), none⟩, ⟨some 3, .mov (.r 0), none⟩])
  .ret)))))),
  [.v 3]⟩
def ir_impl_checkedMark : IFun := ⟨[0, 2, 3, 6],
  (.seq (.region false [] [⟨some 1, .nilrow t_int true 1, none⟩, ⟨some 2, .mov (.c (.bool false)), none⟩])
  (.seq (.seq (.region false [] [⟨none, .mov (.v 0), none⟩, ⟨none, .call false f_impl_allWithin [(.r 0), (.c (.int .i64 0)), (.c (.int .i64 50))], none⟩, ⟨some 3, .not (.r 1), none⟩])
  (.cond (.v 3) (.seq (.region false [] [⟨some 1, .nilrow t_int true 1, none⟩, ⟨some 2, .mov (.c (.bool false)), none⟩])
  .ret) .skip))
  (.seq (.region false [] [⟨none, .mov (.v 0), none⟩, ⟨some 1, .mov (.r 0), none⟩, ⟨some 2, .mov (.c (.bool true)), none⟩])
  .ret))),
  [.v 1, .v 2]⟩
def ir_impl_Fire : IFun := ⟨[0, 1, 2, 3, 6, 7, 27],
  (.seq (.region false [] [⟨some 3, .box t_impl_Net 2 (.v 0), none⟩, ⟨some 4, .nilrow t_int true 1, none⟩, ⟨some 5, .mov (.c (.bool false)), none⟩])
  (.seq (.seq (.region false [] [⟨none, .load true 2 (.v 3), none⟩, ⟨none, .mov (.v 1), none⟩, ⟨none, .call false f_impl_isMarked [(.r 0), (.r 1)], none⟩, ⟨none, .not (.r 2), none⟩, ⟨none, .mov (.r 3), none⟩, ⟨none, .load true 2 (.v 3), some (4, false)⟩, ⟨none, .mov (.v 2), some (4, false)⟩, ⟨none, .call false f_impl_isTrans [(.r 5), (.r 6)], some (4, false)⟩, ⟨none, .not (.r 7), some (4, false)⟩, ⟨none, .pick (.r 4) (.c (.bool true)) (.r 8), none⟩, ⟨none, .mov (.r 9), none⟩, ⟨none, .faddr 1 (.v 3), some (10, false)⟩, ⟨none, .load false 1 (.r 11), some (10, false)⟩, ⟨none, .mov (.v 2), some (10, false)⟩, ⟨none, .iaddr 3 (.r 12) (.r 13), some (10, false)⟩, ⟨none, .load true 3 (.r 14), some (10, false)⟩, ⟨none, .mov (.v 1), some (10, false)⟩, ⟨none, .call false f_impl_isEnabled [(.r 15), (.r 16)], some (10, false)⟩, ⟨none, .not (.r 17), some (10, false)⟩, ⟨some 6, .pick (.r 10) (.c (.bool true)) (.r 18), none⟩])
  (.cond (.v 6) (.seq (.region false [] [⟨some 4, .nilrow t_int true 1, none⟩, ⟨some 5, .mov (.c (.bool false)), none⟩])
  .ret) .skip))
  (.seq (.region false [] [⟨none, .faddr 1 (.v 3), none⟩, ⟨none, .load false 1 (.r 0), none⟩, ⟨none, .mov (.v 2), none⟩, ⟨none, .iaddr 3 (.r 1) (.r 2), none⟩, ⟨none, .load true 3 (.r 3), none⟩, ⟨none, .mov (.v 1), none⟩, ⟨none, .call false f_impl_fired [(.r 4), (.r 5)], none⟩, ⟨none, .call false f_impl_checkedMark [(.r 6)], none⟩, ⟨none, .extract (.r 7) 0, none⟩, ⟨none, .extract (.r 7) 1, none⟩, ⟨some 4, .mov (.r 8), none⟩, ⟨some 5, .mov (.r 9), none⟩])
  .ret))),
  [.v 4, .v 5]⟩
def ir_spec_DrawTakersOf : IFun := ⟨[0, 2, 3, 4, 5],
  (.seq (.region false [] [⟨some 1, .alloc t_impl_Net [(.int .i64 0), (.nil false 3)], none⟩, ⟨some 2, .mov (.c (.int .i64 0)), none⟩])
  (.seq (.region false [] [⟨none, .mov (.v 0), none⟩, ⟨none, .build [(.nil true 1), (.int .i64 0), (.int .u64 0)] [(0, 1, (.r 0))], none⟩, ⟨none, .box t_spec_l1Cur 3 (.r 1), none⟩, ⟨some 3, .mov (.r 2), none⟩])
  (.seq (.region false [] [⟨none, .mov (.v 3), none⟩, ⟨none, .callm f_spec_l1Cur_net [(.r 0), (.c (.bool true))], none⟩, ⟨some 4, .alloc t_impl_Net [(.int .i64 0), (.nil false 3)], none⟩, ⟨none, .store 2 (.v 4) (.r 1), none⟩])
  (.seq (.region true [(2, 0)] [⟨none, .load true 2 (.v 4), none⟩, ⟨none, .mov (.v 3), none⟩, ⟨none, .callm f_spec_l1Cur_pick [(.r 1), (.c (.int .i64 7))], none⟩, ⟨none, .bin false .sub (.r 2) (.c (.int .i64 1)), none⟩, ⟨none, .store 2 (.v 1) (.r 0), none⟩, ⟨some 2, .mov (.r 3), none⟩])
  .ret)))),
  [.cell true 2 1, .v 2]⟩
def ir_slices_Index_sl_int_int : IFun := ⟨[0, 1, 4, 5, 7, 8, 9, 16],
  (.seq (.region false [] [⟨some 2, .mov (.c (.int .i64 0)), none⟩])
  (.seq (.seq (.region false [] [⟨none, .mov (.v 0), none⟩, ⟨some 4, .len false (.r 0), none⟩, ⟨some 5, .mov (.c (.int .i64 0)), none⟩])
  (.block 0 (.loop [true, true, false, false, true, true, false, false] (.seq (.region false [] [⟨some 6, .bin false .lss (.v 5) (.v 4), none⟩])
  (.seq (.cond (.v 6) .skip (.exit 0))
  (.seq (.block 1 (.seq (.region false [] [⟨none, .mov (.v 5), none⟩, ⟨some 3, .mov (.r 0), none⟩])
  (.seq (.region false [] [⟨none, .mov (.v 1), none⟩, ⟨none, .mov (.v 0), none⟩, ⟨none, .mov (.v 3), none⟩, ⟨none, .iaddr 1 (.r 1) (.r 2), none⟩, ⟨none, .load false 1 (.r 3), none⟩, ⟨some 7, .bin false .eql (.r 0) (.r 4), none⟩])
  (.cond (.v 7) (.seq (.region false [] [⟨none, .mov (.v 3), none⟩, ⟨some 2, .mov (.r 0), none⟩])
  .ret) .skip))))
  (.region false [] [⟨none, .bin false .add (.v 5) (.c (.int .i64 1)), none⟩, ⟨some 5, .mov (.r 0), none⟩])))))))
  (.seq (.region false [] [⟨some 2, .mov (.c (.int .i64 (-1))), none⟩])
  .ret))),
  [.v 2]⟩
def ir_slices_Contains_sl_int_int : IFun := ⟨[0, 1, 4],
  (.seq (.region false [] [⟨some 2, .mov (.c (.bool false)), none⟩])
  (.seq (.region false [] [⟨none, .mov (.v 0), none⟩, ⟨none, .mov (.v 1), none⟩, ⟨none, .call false f_slices_Index_sl_int_int [(.r 0), (.r 1)], none⟩, ⟨none, .bin false .geq (.r 2) (.c (.int .i64 0)), none⟩, ⟨some 2, .mov (.r 3), none⟩])
  .ret)),
  [.v 2]⟩
def ir_impl_transWith : IFun := ⟨[0, 1, 2, 3, 6, 7, 8, 9, 10, 21, 23, 24, 25, 26, 34],
  (.seq (.region false [] [⟨some 3, .box t_impl_Net 2 (.v 0), none⟩, ⟨some 4, .nilrow t_int true 1, none⟩, ⟨some 5, .mov (.c (.bool false)), none⟩])
  (.seq (.seq (.region false [] [⟨none, .load true 2 (.v 3), none⟩, ⟨none, .call false f_impl_GoodNet [(.r 0)], none⟩, ⟨none, .not (.r 1), none⟩, ⟨none, .mov (.r 2), none⟩, ⟨none, .mov (.v 1), some (3, false)⟩, ⟨none, .faddr 0 (.v 3), some (3, false)⟩, ⟨none, .load false 1 (.r 5), some (3, false)⟩, ⟨none, .bin false .sub (.r 6) (.c (.int .i64 1)), some (3, false)⟩, ⟨none, .call false f_impl_within [(.r 4), (.c (.int .i64 0)), (.r 7)], some (3, false)⟩, ⟨none, .not (.r 8), some (3, false)⟩, ⟨some 9, .pick (.r 3) (.c (.bool true)) (.r 9), none⟩])
  (.cond (.v 9) (.seq (.region false [] [⟨some 4, .nilrow t_int true 1, none⟩, ⟨some 5, .mov (.c (.bool false)), none⟩])
  .ret) .skip))
  (.seq (.region false [] [⟨some 6, .nilrow t_int true 1, none⟩])
  (.seq (.seq (.region false [] [⟨none, .faddr 1 (.v 3), none⟩, ⟨some 10, .load false 1 (.r 0), none⟩, ⟨some 11, .len false (.v 10), none⟩, ⟨some 12, .mov (.c (.int .i64 0)), none⟩])
  (.block 0 (.loop [false, true, true, false, false, false, true, false, false, false, true, true, true, false, false] (.seq (.region false [] [⟨some 13, .bin false .lss (.v 12) (.v 11), none⟩])
  (.seq (.cond (.v 13) .skip (.exit 0))
  (.seq (.block 1 (.seq (.region false [] [⟨none, .mov (.v 12), none⟩, ⟨none, .iaddr 3 (.v 10) (.v 12), none⟩, ⟨none, .load true 3 (.r 1), none⟩, ⟨some 8, .alloc t_impl_Trans [(.nil true 1), (.nil true 1), (.nil true 1)], none⟩, ⟨some 7, .mov (.r 0), none⟩, ⟨none, .store 3 (.v 8) (.r 2), none⟩])
  (.seq (.region false [] [⟨none, .mov (.v 2), none⟩, ⟨none, .load true 3 (.v 8), none⟩, ⟨none, .callv false (.r 0) [(.r 1)], none⟩, ⟨none, .mov (.v 1), none⟩, ⟨some 14, .call false f_slices_Contains_sl_int_int [(.r 2), (.r 3)], none⟩])
  (.cond (.v 14) (.region false [] [⟨none, .mov (.v 6), none⟩, ⟨none, .mov (.v 7), none⟩, ⟨none, .bslice false t_int true 1 [(.r 1)], none⟩, ⟨none, .append t_int true 1 (.r 0) (.r 2), none⟩, ⟨some 6, .mov (.r 3), none⟩]) .skip))))
  (.region false [] [⟨none, .bin false .add (.v 12) (.c (.int .i64 1)), none⟩, ⟨some 12, .mov (.r 0), none⟩])))))))
  (.seq (.region false [] [⟨none, .mov (.v 6), none⟩, ⟨some 4, .mov (.r 0), none⟩, ⟨some 5, .mov (.c (.bool true)), none⟩])
  .ret))))),
  [.v 4, .v 5]⟩
def ir_impl_TakersOf_1 : IFun := ⟨[0, 1, 2],
  (.seq (.region false [] [⟨some 1, .box t_impl_Trans 3 (.v 0), none⟩, ⟨some 2, .nilrow t_int true 1, none⟩])
  (.seq (.region false [] [⟨none, .faddr 0 (.v 1), none⟩, ⟨none, .load false 1 (.r 0), none⟩, ⟨some 2, .mov (.r 1), none⟩])
  .ret)),
  [.v 2]⟩
def ir_impl_TakersOf : IFun := ⟨[0, 1, 2, 4, 5],
  (.seq (.region false [] [⟨some 2, .box t_impl_Net 2 (.v 0), none⟩, ⟨some 3, .nilrow t_int true 1, none⟩, ⟨some 4, .mov (.c (.bool false)), none⟩])
  (.seq (.region false [] [⟨none, .load true 2 (.v 2), none⟩, ⟨none, .mov (.v 1), none⟩, ⟨none, .call false f_impl_transWith [(.r 0), (.r 1), (.c (.clo f_impl_TakersOf_1 []))], none⟩, ⟨none, .extract (.r 2) 0, none⟩, ⟨none, .extract (.r 2) 1, none⟩, ⟨some 3, .mov (.r 3), none⟩, ⟨some 4, .mov (.r 4), none⟩])
  .ret)),
  [.v 3, .v 4]⟩
def ir_spec_l1Has : IFun := ⟨[0, 1, 4, 6, 7, 8, 9, 10, 15],
  (.seq (.region false [] [⟨some 2, .mov (.c (.bool false)), none⟩])
  (.seq (.seq (.region false [] [⟨some 4, .mov (.v 0), none⟩, ⟨some 5, .len false (.v 4), none⟩, ⟨some 6, .mov (.c (.int .i64 0)), none⟩])
  (.block 0 (.loop [false, true, false, false, true, true, true, false, false] (.seq (.region false [] [⟨some 7, .bin false .lss (.v 6) (.v 5), none⟩])
  (.seq (.cond (.v 7) .skip (.exit 0))
  (.seq (.block 1 (.seq (.region false [] [⟨none, .iaddr 1 (.v 4) (.v 6), none⟩, ⟨none, .load false 1 (.r 0), none⟩, ⟨some 3, .mov (.r 1), none⟩])
  (.seq (.region false [] [⟨none, .mov (.v 3), none⟩, ⟨none, .mov (.v 1), none⟩, ⟨some 8, .bin false .eql (.r 0) (.r 1), none⟩])
  (.cond (.v 8) (.seq (.region false [] [⟨some 2, .mov (.c (.bool true)), none⟩])
  .ret) .skip))))
  (.region false [] [⟨none, .bin false .add (.v 6) (.c (.int .i64 1)), none⟩, ⟨some 6, .mov (.r 0), none⟩])))))))
  (.seq (.region false [] [⟨some 2, .mov (.c (.bool false)), none⟩])
  .ret))),
  [.v 2]⟩
def ir_spec_l2Takers : IFun := ⟨[0, 1, 2, 4, 5, 6, 7, 9, 10, 11, 12, 19],
  (.seq (.region false [] [⟨some 2, .box t_impl_Net 2 (.v 0), none⟩, ⟨some 3, .nilrow t_int true 1, none⟩])
  (.seq (.region false [] [⟨some 4, .nilrow t_int true 1, none⟩])
  (.seq (.seq (.region false [] [⟨none, .faddr 1 (.v 2), none⟩, ⟨some 7, .load false 1 (.r 0), none⟩, ⟨some 8, .len false (.v 7), none⟩, ⟨some 9, .mov (.c (.int .i64 0)), none⟩])
  (.block 0 (.loop [false, true, false, false, true, false, false, true, true, true, false, false] (.seq (.region false [] [⟨some 10, .bin false .lss (.v 9) (.v 8), none⟩])
  (.seq (.cond (.v 10) .skip (.exit 0))
  (.seq (.block 1 (.seq (.region false [] [⟨none, .mov (.v 9), none⟩, ⟨none, .iaddr 3 (.v 7) (.v 9), none⟩, ⟨none, .load true 3 (.r 1), none⟩, ⟨some 6, .alloc t_impl_Trans [(.nil true 1), (.nil true 1), (.nil true 1)], none⟩, ⟨some 5, .mov (.r 0), none⟩, ⟨none, .store 3 (.v 6) (.r 2), none⟩])
  (.seq (.region false [] [⟨none, .faddr 0 (.v 6), none⟩, ⟨none, .load false 1 (.r 0), none⟩, ⟨none, .mov (.v 1), none⟩, ⟨some 11, .call false f_spec_l1Has [(.r 1), (.r 2)], none⟩])
  (.cond (.v 11) (.region false [] [⟨none, .mov (.v 4), none⟩, ⟨none, .mov (.v 5), none⟩, ⟨none, .bslice false t_int true 1 [(.r 1)], none⟩, ⟨none, .append t_int true 1 (.r 0) (.r 2), none⟩, ⟨some 4, .mov (.r 3), none⟩]) .skip))))
  (.region false [] [⟨none, .bin false .add (.v 9) (.c (.int .i64 1)), none⟩, ⟨some 9, .mov (.r 0), none⟩])))))))
  (.seq (.region false [] [⟨none, .mov (.v 4), none⟩, ⟨some 3, .mov (.r 0), none⟩])
  .ret)))),
  [.v 3]⟩
def ir_spec_TakersOf : IFun := ⟨[0, 1, 2, 4, 5, 16],
  (.seq (.region false [] [⟨some 2, .box t_impl_Net 2 (.v 0), none⟩, ⟨some 3, .nilrow t_int true 1, none⟩, ⟨some 4, .mov (.c (.bool false)), none⟩])
  (.seq (.seq (.region false [] [⟨none, .load true 2 (.v 2), none⟩, ⟨none, .call false f_spec_GoodNet [(.r 0)], none⟩, ⟨none, .not (.r 1), none⟩, ⟨none, .mov (.r 2), none⟩, ⟨none, .mov (.v 1), some (3, false)⟩, ⟨none, .faddr 0 (.v 2), some (3, false)⟩, ⟨none, .load false 1 (.r 5), some (3, false)⟩, ⟨none, .bin false .sub (.r 6) (.c (.int .i64 1)), some (3, false)⟩, ⟨none, .call false f_spec_l1In [(.r 4), (.c (.int .i64 0)), (.r 7)], some (3, false)⟩, ⟨none, .not (.r 8), some (3, false)⟩, ⟨some 5, .pick (.r 3) (.c (.bool true)) (.r 9), none⟩])
  (.cond (.v 5) (.seq (.region false [] [⟨some 3, .nilrow t_int true 1, none⟩, ⟨some 4, .mov (.c (.bool false)), none⟩])
  .ret) .skip))
  (.seq (.region false [] [⟨none, .load true 2 (.v 2), none⟩, ⟨none, .mov (.v 1), none⟩, ⟨none, .call false f_spec_l2Takers [(.r 0), (.r 1)], none⟩, ⟨some 3, .mov (.r 2), none⟩, ⟨some 4, .mov (.c (.bool true)), none⟩])
  .ret))),
  [.v 3, .v 4]⟩
def ir_impl_GiversOf_1 : IFun := ⟨[0, 1, 2],
  (.seq (.region false [] [⟨some 1, .box t_impl_Trans 3 (.v 0), none⟩, ⟨some 2, .nilrow t_int true 1, none⟩])
  (.seq (.region false [] [⟨none, .faddr 1 (.v 1), none⟩, ⟨none, .load false 1 (.r 0), none⟩, ⟨some 2, .mov (.r 1), none⟩])
  .ret)),
  [.v 2]⟩
def ir_impl_GiversOf : IFun := ⟨[0, 1, 2, 4, 5],
  (.seq (.region false [] [⟨some 2, .box t_impl_Net 2 (.v 0), none⟩, ⟨some 3, .nilrow t_int true 1, none⟩, ⟨some 4, .mov (.c (.bool false)), none⟩])
  (.seq (.region false [] [⟨none, .load true 2 (.v 2), none⟩, ⟨none, .mov (.v 1), none⟩, ⟨none, .call false f_impl_transWith [(.r 0), (.r 1), (.c (.clo f_impl_GiversOf_1 []))], none⟩, ⟨none, .extract (.r 2) 0, none⟩, ⟨none, .extract (.r 2) 1, none⟩, ⟨some 3, .mov (.r 3), none⟩, ⟨some 4, .mov (.r 4), none⟩])
  .ret)),
  [.v 3, .v 4]⟩
def ir_spec_l2Givers : IFun := ⟨[0, 1, 2, 4, 5, 6, 7, 9, 10, 11, 12, 19],
  (.seq (.region false [] [⟨some 2, .box t_impl_Net 2 (.v 0), none⟩, ⟨some 3, .nilrow t_int true 1, none⟩])
  (.seq (.region false [] [⟨some 4, .nilrow t_int true 1, none⟩])
  (.seq (.seq (.region false [] [⟨none, .faddr 1 (.v 2), none⟩, ⟨some 7, .load false 1 (.r 0), none⟩, ⟨some 8, .len false (.v 7), none⟩, ⟨some 9, .mov (.c (.int .i64 0)), none⟩])
  (.block 0 (.loop [false, true, false, false, true, false, false, true, true, true, false, false] (.seq (.region false [] [⟨some 10, .bin false .lss (.v 9) (.v 8), none⟩])
  (.seq (.cond (.v 10) .skip (.exit 0))
  (.seq (.block 1 (.seq (.region false [] [⟨none, .mov (.v 9), none⟩, ⟨none, .iaddr 3 (.v 7) (.v 9), none⟩, ⟨none, .load true 3 (.r 1), none⟩, ⟨some 6, .alloc t_impl_Trans [(.nil true 1), (.nil true 1), (.nil true 1)], none⟩, ⟨some 5, .mov (.r 0), none⟩, ⟨none, .store 3 (.v 6) (.r 2), none⟩])
  (.seq (.region false [] [⟨none, .faddr 1 (.v 6), none⟩, ⟨none, .load false 1 (.r 0), none⟩, ⟨none, .mov (.v 1), none⟩, ⟨some 11, .call false f_spec_l1Has [(.r 1), (.r 2)], none⟩])
  (.cond (.v 11) (.region false [] [⟨none, .mov (.v 4), none⟩, ⟨none, .mov (.v 5), none⟩, ⟨none, .bslice false t_int true 1 [(.r 1)], none⟩, ⟨none, .append t_int true 1 (.r 0) (.r 2), none⟩, ⟨some 4, .mov (.r 3), none⟩]) .skip))))
  (.region false [] [⟨none, .bin false .add (.v 9) (.c (.int .i64 1)), none⟩, ⟨some 9, .mov (.r 0), none⟩])))))))
  (.seq (.region false [] [⟨none, .mov (.v 4), none⟩, ⟨some 3, .mov (.r 0), none⟩])
  .ret)))),
  [.v 3]⟩
def ir_spec_GiversOf : IFun := ⟨[0, 1, 2, 4, 5, 16],
  (.seq (.region false [] [⟨some 2, .box t_impl_Net 2 (.v 0), none⟩, ⟨some 3, .nilrow t_int true 1, none⟩, ⟨some 4, .mov (.c (.bool false)), none⟩])
  (.seq (.seq (.region false [] [⟨none, .load true 2 (.v 2), none⟩, ⟨none, .call false f_spec_GoodNet [(.r 0)], none⟩, ⟨none, .not (.r 1), none⟩, ⟨none, .mov (.r 2), none⟩, ⟨none, .mov (.v 1), some (3, false)⟩, ⟨none, .faddr 0 (.v 2), some (3, false)⟩, ⟨none, .load false 1 (.r 5), some (3, false)⟩, ⟨none, .bin false .sub (.r 6) (.c (.int .i64 1)), some (3, false)⟩, ⟨none, .call false f_spec_l1In [(.r 4), (.c (.int .i64 0)), (.r 7)], some (3, false)⟩, ⟨none, .not (.r 8), some (3, false)⟩, ⟨some 5, .pick (.r 3) (.c (.bool true)) (.r 9), none⟩])
  (.cond (.v 5) (.seq (.region false [] [⟨some 3, .nilrow t_int true 1, none⟩, ⟨some 4, .mov (.c (.bool false)), none⟩])
  .ret) .skip))
  (.seq (.region false [] [⟨none, .load true 2 (.v 2), none⟩, ⟨none, .mov (.v 1), none⟩, ⟨none, .call false f_spec_l2Givers [(.r 0), (.r 1)], none⟩, ⟨some 3, .mov (.r 2), none⟩, ⟨some 4, .mov (.c (.bool true)), none⟩])
  .ret))),
  [.v 3, .v 4]⟩
def ir_impl_IsFreeChoice_1 : IFun := ⟨[0, 1, 3],
  (.seq (.region false [] [⟨some 2, .mov (.c (.bool false)), none⟩])
  (.seq (.region false [] [⟨none, .faddr 0 (.v 1), none⟩, ⟨none, .load false 1 (.r 0), none⟩, ⟨none, .mov (.v 0), none⟩, ⟨none, .call false f_slices_Contains_sl_int_int [(.r 1), (.r 2)], none⟩, ⟨some 2, .mov (.r 3), none⟩])
  .ret)),
  [.v 2]⟩
def ir_slices_Equal_sl_int_int : IFun := ⟨[0, 1, 4, 5, 10, 12, 13, 14, 24],
  (.seq (.region false [] [⟨some 2, .mov (.c (.bool false)), none⟩])
  (.seq (.seq (.region false [] [⟨none, .mov (.v 0), none⟩, ⟨none, .len false (.r 0), none⟩, ⟨none, .mov (.v 1), none⟩, ⟨none, .len false (.r 2), none⟩, ⟨some 4, .bin false .neq (.r 1) (.r 3), none⟩])
  (.cond (.v 4) (.seq (.region false [] [⟨some 2, .mov (.c (.bool false)), none⟩])
  .ret) .skip))
  (.seq (.seq (.region false [] [⟨none, .mov (.v 0), none⟩, ⟨some 5, .len false (.r 0), none⟩, ⟨some 6, .mov (.c (.int .i64 0)), none⟩])
  (.block 0 (.loop [true, true, false, false, false, true, true, false, false] (.seq (.region false [] [⟨some 7, .bin false .lss (.v 6) (.v 5), none⟩])
  (.seq (.cond (.v 7) .skip (.exit 0))
  (.seq (.block 1 (.seq (.region false [] [⟨none, .mov (.v 6), none⟩, ⟨some 3, .mov (.r 0), none⟩])
  (.seq (.region true [] [⟨none, .mov (.v 0), none⟩, ⟨none, .mov (.v 3), none⟩, ⟨none, .iaddr 1 (.r 0) (.r 1), none⟩, ⟨none, .load false 1 (.r 2), none⟩, ⟨none, .mov (.v 1), none⟩, ⟨none, .mov (.v 3), none⟩, ⟨none, .iaddr 1 (.r 4) (.r 5), none⟩, ⟨none, .load false 1 (.r 6), none⟩, ⟨some 8, .bin false .neq (.r 3) (.r 7), none⟩])
  (.cond (.v 8) (.seq (.region false [] [⟨some 2, .mov (.c (.bool false)), none⟩])
  .ret) .skip))))
  (.region false [] [⟨none, .bin false .add (.v 6) (.c (.int .i64 1)), none⟩, ⟨some 6, .mov (.r 0), none⟩])))))))
  (.seq (.region false [] [⟨some 2, .mov (.c (.bool true)), none⟩])
  .ret)))),
  [.v 2]⟩
def ir_impl_IsFreeChoice : IFun := ⟨[0, 1, 2, 3, 4, 5, 7, 8, 11, 13, 14, 15, 16, 23, 24, 25, 26, 41],
  (.seq (.region false [] [⟨some 1, .box t_impl_Net 2 (.v 0), none⟩, ⟨some 2, .mov (.c (.bool false)), none⟩, ⟨some 3, .mov (.c (.bool false)), none⟩])
  (.seq (.seq (.region false [] [⟨none, .load true 2 (.v 1), none⟩, ⟨none, .call false f_impl_GoodNet [(.r 0)], none⟩, ⟨some 8, .not (.r 1), none⟩])
  (.cond (.v 8) (.seq (.region false [] [⟨some 2, .mov (.c (.bool false)), none⟩, ⟨some 3, .mov (.c (.bool false)), none⟩])
  .ret) .skip))
  (.seq (.seq (.region false [] [⟨none, .faddr 1 (.v 1), none⟩, ⟨some 9, .load false 1 (.r 0), none⟩, ⟨some 10, .len false (.v 9), none⟩, ⟨some 11, .mov (.c (.int .i64 0)), none⟩])
  (.block 0 (.loop [false, true, false, false, false, false, false, false, false, true, true, true, false, false, false, false, false, false] (.seq (.region false [] [⟨some 12, .bin false .lss (.v 11) (.v 10), none⟩])
  (.seq (.cond (.v 12) .skip (.exit 0))
  (.seq (.block 1 (.seq (.region false [] [⟨none, .mov (.v 11), none⟩, ⟨none, .iaddr 3 (.v 9) (.v 11), none⟩, ⟨none, .load true 3 (.r 1), none⟩, ⟨some 5, .alloc t_impl_Trans [(.nil true 1), (.nil true 1), (.nil true 1)], none⟩, ⟨some 4, .mov (.r 0), none⟩, ⟨none, .store 3 (.v 5) (.r 2), none⟩])
  (.seq (.region false [] [⟨none, .faddr 1 (.v 1), none⟩, ⟨none, .load false 1 (.r 0), none⟩, ⟨none, .mov (.v 4), none⟩, ⟨some 13, .slice 3 (.r 1) none (some (.r 2)), none⟩, ⟨some 14, .len false (.v 13), none⟩, ⟨some 15, .mov (.c (.int .i64 0)), none⟩])
  (.block 2 (.loop [false, true, false, false, false, true, false, false, false, true, true, true, false, true, true, true, false, false] (.seq (.region false [] [⟨some 16, .bin false .lss (.v 15) (.v 14), none⟩])
  (.seq (.cond (.v 16) .skip (.exit 2))
  (.seq (.block 3 (.seq (.region false [] [⟨none, .iaddr 3 (.v 13) (.v 15), none⟩, ⟨none, .load true 3 (.r 0), none⟩, ⟨some 6, .alloc t_impl_Trans [(.nil true 1), (.nil true 1), (.nil true 1)], none⟩, ⟨none, .store 3 (.v 6) (.r 1), none⟩])
  (.seq (.region false [] [⟨none, .faddr 0 (.v 5), none⟩, ⟨none, .load false 1 (.r 0), none⟩, ⟨none, .mkfn f_impl_IsFreeChoice_1 [(.v 6)], none⟩, ⟨none, .call false f_slices_ContainsFunc_sl_int_int [(.r 1), (.r 2)], none⟩, ⟨some 7, .mov (.r 3), none⟩])
  (.seq (.region false [] [⟨none, .mov (.v 7), none⟩, ⟨none, .mov (.r 0), none⟩, ⟨none, .faddr 0 (.v 5), some (1, true)⟩, ⟨none, .load false 1 (.r 2), some (1, true)⟩, ⟨none, .faddr 0 (.v 6), some (1, true)⟩, ⟨none, .load false 1 (.r 4), some (1, true)⟩, ⟨none, .call false f_slices_Equal_sl_int_int [(.r 3), (.r 5)], some (1, true)⟩, ⟨none, .not (.r 6), some (1, true)⟩, ⟨some 17, .pick (.r 1) (.r 7) (.c (.bool false)), none⟩])
  (.cond (.v 17) (.seq (.region false [] [⟨some 2, .mov (.c (.bool false)), none⟩, ⟨some 3, .mov (.c (.bool true)), none⟩])
  .ret) .skip)))))
  (.region false [] [⟨none, .bin false .add (.v 15) (.c (.int .i64 1)), none⟩, ⟨some 15, .mov (.r 0), none⟩])))))))))
  (.region false [] [⟨none, .bin false .add (.v 11) (.c (.int .i64 1)), none⟩, ⟨some 11, .mov (.r 0), none⟩])))))))
  (.seq (.region false [] [⟨some 2, .mov (.c (.bool true)), none⟩, ⟨some 3, .mov (.c (.bool true)), none⟩])
  .ret)))),
  [.v 2, .v 3]⟩
def ir_spec_l2Meet : IFun := ⟨[0, 1, 4, 6, 7, 8, 9, 10, 15],
  (.seq (.region false [] [⟨some 2, .mov (.c (.bool false)), none⟩])
  (.seq (.seq (.region false [] [⟨some 4, .mov (.v 0), none⟩, ⟨some 5, .len false (.v 4), none⟩, ⟨some 6, .mov (.c (.int .i64 0)), none⟩])
  (.block 0 (.loop [false, true, false, false, true, true, true, false, false] (.seq (.region false [] [⟨some 7, .bin false .lss (.v 6) (.v 5), none⟩])
  (.seq (.cond (.v 7) .skip (.exit 0))
  (.seq (.block 1 (.seq (.region false [] [⟨none, .iaddr 1 (.v 4) (.v 6), none⟩, ⟨none, .load false 1 (.r 0), none⟩, ⟨some 3, .mov (.r 1), none⟩])
  (.seq (.region false [] [⟨none, .mov (.v 1), none⟩, ⟨none, .mov (.v 3), none⟩, ⟨some 8, .call false f_spec_l1Has [(.r 0), (.r 1)], none⟩])
  (.cond (.v 8) (.seq (.region false [] [⟨some 2, .mov (.c (.bool true)), none⟩])
  .ret) .skip))))
  (.region false [] [⟨none, .bin false .add (.v 6) (.c (.int .i64 1)), none⟩, ⟨some 6, .mov (.r 0), none⟩])))))))
  (.seq (.region false [] [⟨some 2, .mov (.c (.bool false)), none⟩])
  .ret))),
  [.v 2]⟩
def ir_spec_l1Same : IFun := ⟨[0, 1, 4, 5, 10, 12, 13, 14, 24],
  (.seq (.region false [] [⟨some 2, .mov (.c (.bool false)), none⟩])
  (.seq (.seq (.region false [] [⟨none, .mov (.v 0), none⟩, ⟨none, .len false (.r 0), none⟩, ⟨none, .mov (.v 1), none⟩, ⟨none, .len false (.r 2), none⟩, ⟨some 4, .bin false .neq (.r 1) (.r 3), none⟩])
  (.cond (.v 4) (.seq (.region false [] [⟨some 2, .mov (.c (.bool false)), none⟩])
  .ret) .skip))
  (.seq (.seq (.region false [] [⟨none, .mov (.v 0), none⟩, ⟨some 5, .len false (.r 0), none⟩, ⟨some 6, .mov (.c (.int .i64 0)), none⟩])
  (.block 0 (.loop [true, true, false, false, false, true, true, false, false] (.seq (.region false [] [⟨some 7, .bin false .lss (.v 6) (.v 5), none⟩])
  (.seq (.cond (.v 7) .skip (.exit 0))
  (.seq (.block 1 (.seq (.region false [] [⟨none, .mov (.v 6), none⟩, ⟨some 3, .mov (.r 0), none⟩])
  (.seq (.region true [] [⟨none, .mov (.v 0), none⟩, ⟨none, .mov (.v 3), none⟩, ⟨none, .iaddr 1 (.r 0) (.r 1), none⟩, ⟨none, .load false 1 (.r 2), none⟩, ⟨none, .mov (.v 1), none⟩, ⟨none, .mov (.v 3), none⟩, ⟨none, .iaddr 1 (.r 4) (.r 5), none⟩, ⟨none, .load false 1 (.r 6), none⟩, ⟨some 8, .bin false .neq (.r 3) (.r 7), none⟩])
  (.cond (.v 8) (.seq (.region false [] [⟨some 2, .mov (.c (.bool false)), none⟩])
  .ret) .skip))))
  (.region false [] [⟨none, .bin false .add (.v 6) (.c (.int .i64 1)), none⟩, ⟨some 6, .mov (.r 0), none⟩])))))))
  (.seq (.region false [] [⟨some 2, .mov (.c (.bool true)), none⟩])
  .ret)))),
  [.v 2]⟩
def ir_spec_IsFreeChoice : IFun := ⟨[0, 1, 2, 3, 5, 7, 10, 12, 13, 14, 15, 19, 20, 21, 22, 37],
  (.seq (.region false [] [⟨some 1, .box t_impl_Net 2 (.v 0), none⟩, ⟨some 2, .mov (.c (.bool false)), none⟩, ⟨some 3, .mov (.c (.bool false)), none⟩])
  (.seq (.seq (.region false [] [⟨none, .load true 2 (.v 1), none⟩, ⟨none, .call false f_spec_GoodNet [(.r 0)], none⟩, ⟨some 6, .not (.r 1), none⟩])
  (.cond (.v 6) (.seq (.region false [] [⟨some 2, .mov (.c (.bool false)), none⟩, ⟨some 3, .mov (.c (.bool false)), none⟩])
  .ret) .skip))
  (.seq (.seq (.region false [] [⟨none, .faddr 1 (.v 1), none⟩, ⟨some 7, .load false 1 (.r 0), none⟩, ⟨some 8, .len false (.v 7), none⟩, ⟨some 9, .mov (.c (.int .i64 0)), none⟩])
  (.block 0 (.loop [false, true, false, false, false, false, false, true, true, true, false, false, false, false, false, false] (.seq (.region false [] [⟨some 10, .bin false .lss (.v 9) (.v 8), none⟩])
  (.seq (.cond (.v 10) .skip (.exit 0))
  (.seq (.block 1 (.seq (.region false [] [⟨none, .iaddr 3 (.v 7) (.v 9), none⟩, ⟨none, .load true 3 (.r 0), none⟩, ⟨some 4, .alloc t_impl_Trans [(.nil true 1), (.nil true 1), (.nil true 1)], none⟩, ⟨none, .store 3 (.v 4) (.r 1), none⟩])
  (.seq (.region false [] [⟨none, .faddr 1 (.v 1), none⟩, ⟨some 11, .load false 1 (.r 0), none⟩, ⟨some 12, .len false (.v 11), none⟩, ⟨some 13, .mov (.c (.int .i64 0)), none⟩])
  (.block 2 (.loop [false, true, false, false, true, false, false, true, true, true, false, true, true, true, false, false] (.seq (.region false [] [⟨some 14, .bin false .lss (.v 13) (.v 12), none⟩])
  (.seq (.cond (.v 14) .skip (.exit 2))
  (.seq (.block 3 (.seq (.region false [] [⟨none, .iaddr 3 (.v 11) (.v 13), none⟩, ⟨none, .load true 3 (.r 0), none⟩, ⟨some 5, .alloc t_impl_Trans [(.nil true 1), (.nil true 1), (.nil true 1)], none⟩, ⟨none, .store 3 (.v 5) (.r 1), none⟩])
  (.seq (.region false [] [⟨none, .faddr 0 (.v 4), none⟩, ⟨none, .load false 1 (.r 0), none⟩, ⟨none, .faddr 0 (.v 5), none⟩, ⟨none, .load false 1 (.r 2), none⟩, ⟨none, .call false f_spec_l2Meet [(.r 1), (.r 3)], none⟩, ⟨none, .mov (.r 4), none⟩, ⟨none, .faddr 0 (.v 4), some (5, true)⟩, ⟨none, .load false 1 (.r 6), some (5, true)⟩, ⟨none, .faddr 0 (.v 5), some (5, true)⟩, ⟨none, .load false 1 (.r 8), some (5, true)⟩, ⟨none, .call false f_spec_l1Same [(.r 7), (.r 9)], some (5, true)⟩, ⟨none, .not (.r 10), some (5, true)⟩, ⟨some 15, .pick (.r 5) (.r 11) (.c (.bool false)), none⟩])
  (.cond (.v 15) (.seq (.region false [] [⟨some 2, .mov (.c (.bool false)), none⟩, ⟨some 3, .mov (.c (.bool true)), none⟩])
  .ret) .skip))))
  (.region false [] [⟨none, .bin false .add (.v 13) (.c (.int .i64 1)), none⟩, ⟨some 13, .mov (.r 0), none⟩])))))))))
  (.region false [] [⟨none, .bin false .add (.v 9) (.c (.int .i64 1)), none⟩, ⟨some 9, .mov (.r 0), none⟩])))))))
  (.seq (.region false [] [⟨some 2, .mov (.c (.bool true)), none⟩, ⟨some 3, .mov (.c (.bool true)), none⟩])
  .ret)))),
  [.v 2, .v 3]⟩
def ir_impl_HasResets : IFun := ⟨[0, 1, 2, 3, 6],
  (.seq (.region false [] [⟨some 1, .box t_impl_Net 2 (.v 0), none⟩, ⟨some 2, .mov (.c (.bool false)), none⟩, ⟨some 3, .mov (.c (.bool false)), none⟩])
  (.seq (.seq (.region false [] [⟨none, .load true 2 (.v 1), none⟩, ⟨none, .call false f_impl_GoodNet [(.r 0)], none⟩, ⟨some 4, .not (.r 1), none⟩])
  (.cond (.v 4) (.seq (.region false [] [⟨some 2, .mov (.c (.bool false)), none⟩, ⟨some 3, .mov (.c (.bool false)), none⟩])
  .ret) .skip))
  (.seq (.region false [] [⟨none, .load true 2 (.v 1), none⟩, ⟨none, .call false f_impl_hasResets [(.r 0)], none⟩, ⟨some 2, .mov (.r 1), none⟩, ⟨some 3, .mov (.c (.bool true)), none⟩])
  .ret))),
  [.v 2, .v 3]⟩
def ir_spec_HasResets : IFun := ⟨[0, 1, 2, 3, 6],
  (.seq (.region false [] [⟨some 1, .box t_impl_Net 2 (.v 0), none⟩, ⟨some 2, .mov (.c (.bool false)), none⟩, ⟨some 3, .mov (.c (.bool false)), none⟩])
  (.seq (.seq (.region false [] [⟨none, .load true 2 (.v 1), none⟩, ⟨none, .call false f_spec_GoodNet [(.r 0)], none⟩, ⟨some 4, .not (.r 1), none⟩])
  (.cond (.v 4) (.seq (.region false [] [⟨some 2, .mov (.c (.bool false)), none⟩, ⟨some 3, .mov (.c (.bool false)), none⟩])
  .ret) .skip))
  (.seq (.region false [] [⟨none, .load true 2 (.v 1), none⟩, ⟨none, .call false f_spec_l2Resets [(.r 0)], none⟩, ⟨some 2, .mov (.r 1), none⟩, ⟨some 3, .mov (.c (.bool true)), none⟩])
  .ret))),
  [.v 2, .v 3]⟩
def ir_laws_FnTurned : IFun := ⟨[0, 1, 4, 5, 6, 7, 8, 9, 10, 11, 12, 13, 14, 15, 16, 17, 18, 19, 20, 21, 22, 23, 24, 25, 26, 27, 28, 29, 30, 31, 32, 33, 34, 35, 36, 39, 60, 61, 74, 78, 93, 94, 95, 104, 119],
  (.seq (.region false [] [⟨some 2, .mov (.c (.bool false)), none⟩])
  (.seq (.seq (.region false [] [⟨none, .mov (.v 0), none⟩, ⟨none, .mov (.v 1), none⟩, ⟨some 35, .call false f_laws_big [(.r 0), (.r 1)], none⟩])
  (.cond (.v 35) (.seq (.region false [] [⟨some 2, .mov (.c (.bool true)), none⟩])
  .ret) .skip))
  (.seq (.region false [] [⟨none, .mov (.v 0), none⟩, ⟨none, .call false f_spec_DrawTurnNet [(.r 0)], none⟩, ⟨some 3, .alloc t_impl_Net [(.int .i64 0), (.nil false 3)], none⟩, ⟨none, .store 2 (.v 3) (.r 1), none⟩])
  (.seq (.region false [] [⟨none, .load true 2 (.v 3), none⟩, ⟨none, .call false f_impl_TurnNet [(.r 0)], none⟩, ⟨none, .mov (.r 1), none⟩, ⟨none, .extract (.r 2) 0, none⟩, ⟨none, .extract (.r 2) 1, none⟩, ⟨some 4, .alloc t_impl_Net [(.int .i64 0), (.nil false 3)], none⟩, ⟨none, .store 2 (.v 4) (.r 3), none⟩, ⟨some 5, .mov (.r 4), none⟩])
  (.seq (.region false [] [⟨none, .load true 2 (.v 3), none⟩, ⟨none, .call false f_spec_TurnNet [(.r 0)], none⟩, ⟨none, .mov (.r 1), none⟩, ⟨none, .extract (.r 2) 0, none⟩, ⟨none, .extract (.r 2) 1, none⟩, ⟨some 6, .alloc t_impl_Net [(.int .i64 0), (.nil false 3)], none⟩, ⟨none, .store 2 (.v 6) (.r 3), none⟩, ⟨some 7, .mov (.r 4), none⟩])
  (.seq (.seq (.region false [] [⟨none, .mov (.v 5), none⟩, ⟨none, .mov (.v 7), none⟩, ⟨none, .bin true .neq (.r 0) (.r 1), none⟩, ⟨none, .mov (.r 2), none⟩, ⟨none, .load true 2 (.v 4), some (3, false)⟩, ⟨none, .load true 2 (.v 6), some (3, false)⟩, ⟨none, .call false f_laws_sameNet [(.r 4), (.r 5)], some (3, false)⟩, ⟨none, .not (.r 6), some (3, false)⟩, ⟨some 36, .pick (.r 3) (.c (.bool true)) (.r 7), none⟩])
  (.cond (.v 36) (.seq (.region false [] [⟨some 2, .mov (.c (.bool false)), none⟩])
  .ret) .skip))
  (.seq (.seq (.region false [] [⟨some 37, .mov (.v 5), none⟩])
  (.cond (.v 37) (.seq (.region false [] [⟨none, .load true 2 (.v 4), none⟩, ⟨none, .call false f_impl_TurnNet [(.r 0)], none⟩, ⟨none, .mov (.r 1), none⟩, ⟨none, .extract (.r 2) 0, none⟩, ⟨none, .extract (.r 2) 1, none⟩, ⟨some 8, .alloc t_impl_Net [(.int .i64 0), (.nil false 3)], none⟩, ⟨none, .store 2 (.v 8) (.r 3), none⟩, ⟨some 9, .mov (.r 4), none⟩])
  (.seq (.seq (.region false [] [⟨none, .mov (.v 9), none⟩, ⟨none, .not (.r 0), none⟩, ⟨none, .mov (.r 1), none⟩, ⟨none, .load true 2 (.v 8), some (2, false)⟩, ⟨none, .load true 2 (.v 3), some (2, false)⟩, ⟨none, .call false f_laws_sameNet [(.r 3), (.r 4)], some (2, false)⟩, ⟨none, .not (.r 5), some (2, false)⟩, ⟨some 38, .pick (.r 2) (.c (.bool true)) (.r 6), none⟩])
  (.cond (.v 38) (.seq (.region false [] [⟨some 2, .mov (.c (.bool false)), none⟩])
  .ret) .skip))
  (.seq (.region false [] [⟨some 10, .nilrow t_int true 1, none⟩])
  (.seq (.seq (.region false [] [⟨some 11, .mov (.c (.int .i64 0)), none⟩])
  (.block 0 (.loop [false, true, false, true, true, false, false, false, false, false, true, true, false, false, false, false, false, false, false, false, false, false, false, false, false, false, false, false, false, false, false, false, false, false, false, false, false, false, false, false, false, false, false, false, false] (.seq (.seq (.region false [] [⟨none, .mov (.v 11), none⟩, ⟨none, .faddr 0 (.v 3), none⟩, ⟨none, .load false 1 (.r 1), none⟩, ⟨some 39, .bin false .lss (.r 0) (.r 2), none⟩])
  (.cond (.v 39) .skip (.exit 0)))
  (.seq (.block 1 (.region false [] [⟨none, .mov (.v 10), none⟩, ⟨none, .mov (.v 1), none⟩, ⟨none, .call false f_laws_numberOf [(.r 1)], none⟩, ⟨none, .mov (.v 11), none⟩, ⟨none, .bin false .mul (.c (.int .i64 2)) (.r 3), none⟩, ⟨none, .conv .u64 (.r 4), none⟩, ⟨none, .bin false .shr (.r 2) (.r 5), none⟩, ⟨none, .bin false .and (.r 6) (.c (.int .i64 3)), none⟩, ⟨none, .bslice false t_int true 1 [(.r 7)], none⟩, ⟨none, .append t_int true 1 (.r 0) (.r 8), none⟩, ⟨some 10, .mov (.r 9), none⟩]))
  (.region false [] [⟨none, .mov (.v 11), none⟩, ⟨none, .bin false .add (.r 0) (.c (.int .i64 1)), none⟩, ⟨some 11, .mov (.r 1), none⟩]))))))
  (.seq (.region false [] [⟨none, .faddr 1 (.v 3), none⟩, ⟨none, .load false 1 (.r 0), none⟩, ⟨some 40, .len false (.r 1), none⟩, ⟨some 41, .mov (.c (.int .i64 0)), none⟩])
  (.block 2 (.loop [false, true, false, true, true, false, false, false, false, false, true, false, false, false, false, false, false, false, false, false, false, false, false, false, false, false, false, false, false, false, false, false, false, false, false, false, false, false, false, false, true, true, false, false, false] (.seq (.region false [] [⟨some 42, .bin false .lss (.v 41) (.v 40), none⟩])
  (.seq (.cond (.v 42) .skip (.exit 2))
  (.seq (.block 3 (.seq (.region false [] [⟨none, .mov (.v 41), none⟩, ⟨some 12, .mov (.r 0), none⟩])
  (.seq (.region false [] [⟨none, .load true 2 (.v 3), none⟩, ⟨none, .mov (.v 10), none⟩, ⟨none, .mov (.v 12), none⟩, ⟨none, .call false f_impl_Fire [(.r 0), (.r 1), (.r 2)], none⟩, ⟨none, .mov (.r 3), none⟩, ⟨none, .extract (.r 4) 0, none⟩, ⟨none, .extract (.r 4) 1, none⟩, ⟨some 13, .mov (.r 5), none⟩, ⟨some 14, .mov (.r 6), none⟩])
  (.seq (.region false [] [⟨some 43, .mov (.v 14), none⟩])
  (.cond (.v 43) (.seq (.region false [] [⟨none, .load true 2 (.v 4), none⟩, ⟨none, .mov (.v 13), none⟩, ⟨none, .mov (.v 12), none⟩, ⟨none, .call false f_impl_Fire [(.r 0), (.r 1), (.r 2)], none⟩, ⟨none, .mov (.r 3), none⟩, ⟨none, .extract (.r 4) 0, none⟩, ⟨none, .extract (.r 4) 1, none⟩, ⟨some 15, .mov (.r 5), none⟩, ⟨some 16, .mov (.r 6), none⟩])
  (.seq (.region false [] [⟨none, .mov (.v 16), none⟩, ⟨none, .not (.r 0), none⟩, ⟨none, .mov (.r 1), none⟩, ⟨none, .mov (.v 15), some (2, false)⟩, ⟨none, .mov (.v 10), some (2, false)⟩, ⟨none, .call false f_laws_sameInts [(.r 3), (.r 4)], some (2, false)⟩, ⟨none, .not (.r 5), some (2, false)⟩, ⟨some 44, .pick (.r 2) (.c (.bool true)) (.r 6), none⟩])
  (.cond (.v 44) (.seq (.region false [] [⟨some 2, .mov (.c (.bool false)), none⟩])
  .ret) .skip))) .skip)))))
  (.region false [] [⟨none, .bin false .add (.v 41) (.c (.int .i64 1)), none⟩, ⟨some 41, .mov (.r 0), none⟩]))))))))))) .skip))
  (.seq (.region false [] [⟨none, .mov (.v 1), none⟩, ⟨none, .call false f_spec_DrawTakersOf [(.r 0)], none⟩, ⟨none, .mov (.r 1), none⟩, ⟨none, .extract (.r 2) 0, none⟩, ⟨none, .extract (.r 2) 1, none⟩, ⟨some 17, .alloc t_impl_Net [(.int .i64 0), (.nil false 3)], none⟩, ⟨none, .store 2 (.v 17) (.r 3), none⟩, ⟨some 18, .mov (.r 4), none⟩])
  (.seq (.region false [] [⟨none, .load true 2 (.v 17), none⟩, ⟨none, .mov (.v 18), none⟩, ⟨none, .call false f_impl_TakersOf [(.r 0), (.r 1)], none⟩, ⟨none, .mov (.r 2), none⟩, ⟨none, .extract (.r 3) 0, none⟩, ⟨none, .extract (.r 3) 1, none⟩, ⟨some 19, .mov (.r 4), none⟩, ⟨some 20, .mov (.r 5), none⟩])
  (.seq (.region false [] [⟨none, .load true 2 (.v 17), none⟩, ⟨none, .mov (.v 18), none⟩, ⟨none, .call false f_spec_TakersOf [(.r 0), (.r 1)], none⟩, ⟨none, .mov (.r 2), none⟩, ⟨none, .extract (.r 3) 0, none⟩, ⟨none, .extract (.r 3) 1, none⟩, ⟨some 21, .mov (.r 4), none⟩, ⟨some 22, .mov (.r 5), none⟩])
  (.seq (.region false [] [⟨none, .load true 2 (.v 17), none⟩, ⟨none, .mov (.v 18), none⟩, ⟨none, .call false f_impl_GiversOf [(.r 0), (.r 1)], none⟩, ⟨none, .mov (.r 2), none⟩, ⟨none, .extract (.r 3) 0, none⟩, ⟨none, .extract (.r 3) 1, none⟩, ⟨some 23, .mov (.r 4), none⟩, ⟨some 24, .mov (.r 5), none⟩])
  (.seq (.region false [] [⟨none, .load true 2 (.v 17), none⟩, ⟨none, .mov (.v 18), none⟩, ⟨none, .call false f_spec_GiversOf [(.r 0), (.r 1)], none⟩, ⟨none, .mov (.r 2), none⟩, ⟨none, .extract (.r 3) 0, none⟩, ⟨none, .extract (.r 3) 1, none⟩, ⟨some 25, .mov (.r 4), none⟩, ⟨some 26, .mov (.r 5), none⟩])
  (.seq (.region false [] [⟨none, .load true 2 (.v 17), none⟩, ⟨none, .call false f_impl_IsFreeChoice [(.r 0)], none⟩, ⟨none, .mov (.r 1), none⟩, ⟨none, .extract (.r 2) 0, none⟩, ⟨none, .extract (.r 2) 1, none⟩, ⟨some 27, .mov (.r 3), none⟩, ⟨some 28, .mov (.r 4), none⟩])
  (.seq (.region false [] [⟨none, .load true 2 (.v 17), none⟩, ⟨none, .call false f_spec_IsFreeChoice [(.r 0)], none⟩, ⟨none, .mov (.r 1), none⟩, ⟨none, .extract (.r 2) 0, none⟩, ⟨none, .extract (.r 2) 1, none⟩, ⟨some 29, .mov (.r 3), none⟩, ⟨some 30, .mov (.r 4), none⟩])
  (.seq (.region false [] [⟨none, .load true 2 (.v 17), none⟩, ⟨none, .call false f_impl_HasResets [(.r 0)], none⟩, ⟨none, .mov (.r 1), none⟩, ⟨none, .extract (.r 2) 0, none⟩, ⟨none, .extract (.r 2) 1, none⟩, ⟨some 31, .mov (.r 3), none⟩, ⟨some 32, .mov (.r 4), none⟩])
  (.seq (.region false [] [⟨none, .load true 2 (.v 17), none⟩, ⟨none, .call false f_spec_HasResets [(.r 0)], none⟩, ⟨none, .mov (.r 1), none⟩, ⟨none, .extract (.r 2) 0, none⟩, ⟨none, .extract (.r 2) 1, none⟩, ⟨some 33, .mov (.r 3), none⟩, ⟨some 34, .mov (.r 4), none⟩])
  (.seq (.region false [] [⟨none, .mov (.v 20), none⟩, ⟨none, .mov (.v 22), none⟩, ⟨none, .bin true .eql (.r 0) (.r 1), none⟩, ⟨none, .mov (.r 2), none⟩, ⟨none, .mov (.v 19), some (3, true)⟩, ⟨none, .mov (.v 21), some (3, true)⟩, ⟨none, .call false f_laws_sameInts [(.r 4), (.r 5)], some (3, true)⟩, ⟨none, .pick (.r 3) (.r 6) (.c (.bool false)), none⟩, ⟨none, .mov (.r 7), none⟩, ⟨none, .mov (.v 24), some (8, true)⟩, ⟨none, .mov (.v 26), some (8, true)⟩, ⟨none, .bin true .eql (.r 9) (.r 10), some (8, true)⟩, ⟨none, .pick (.r 8) (.r 11) (.c (.bool false)), none⟩, ⟨none, .mov (.r 12), none⟩, ⟨none, .mov (.v 23), some (13, true)⟩, ⟨none, .mov (.v 25), some (13, true)⟩, ⟨none, .call false f_laws_sameInts [(.r 14), (.r 15)], some (13, true)⟩, ⟨none, .pick (.r 13) (.r 16) (.c (.bool false)), none⟩, ⟨none, .mov (.r 17), none⟩, ⟨none, .mov (.v 28), some (18, true)⟩, ⟨none, .mov (.v 30), some (18, true)⟩, ⟨none, .bin true .eql (.r 19) (.r 20), some (18, true)⟩, ⟨none, .pick (.r 18) (.r 21) (.c (.bool false)), none⟩, ⟨none, .mov (.r 22), none⟩, ⟨none, .mov (.v 27), some (23, true)⟩, ⟨none, .mov (.v 29), some (23, true)⟩, ⟨none, .bin true .eql (.r 24) (.r 25), some (23, true)⟩, ⟨none, .pick (.r 23) (.r 26) (.c (.bool false)), none⟩, ⟨none, .mov (.r 27), none⟩, ⟨none, .mov (.v 32), some (28, true)⟩, ⟨none, .mov (.v 34), some (28, true)⟩, ⟨none, .bin true .eql (.r 29) (.r 30), some (28, true)⟩, ⟨none, .pick (.r 28) (.r 31) (.c (.bool false)), none⟩, ⟨none, .mov (.r 32), none⟩, ⟨none, .mov (.v 31), some (33, true)⟩, ⟨none, .mov (.v 33), some (33, true)⟩, ⟨none, .bin true .eql (.r 34) (.r 35), some (33, true)⟩, ⟨none, .pick (.r 33) (.r 36) (.c (.bool false)), none⟩, ⟨some 2, .mov (.r 37), none⟩])
  .ret))))))))))))))))),
  [.v 2]⟩
def tbl : List (FuncId × IFun) := [(f_laws_big, ir_laws_big), (f_spec_l1Cur_next, ir_spec_l1Cur_next), (f_spec_l1Cur_pick, ir_spec_l1Cur_pick), (f_spec_l1Put, ir_spec_l1Put), (f_spec_l1Cur_someOf, ir_spec_l1Cur_someOf), (f_spec_l1Cur_one, ir_spec_l1Cur_one), (f_spec_l1Cur_among, ir_spec_l1Cur_among), (f_spec_l1Cur_net, ir_spec_l1Cur_net), (f_spec_DrawTurnNet, ir_spec_DrawTurnNet), (f_impl_within, ir_impl_within), (f_impl_increasing, ir_impl_increasing), (f_impl_allWithin, ir_impl_allWithin), (f_impl_arePlaces, ir_impl_arePlaces), (f_impl_GoodNet_1, ir_impl_GoodNet_1), (f_slices_IndexFunc_sl_impl_Trans_impl_Trans, ir_slices_IndexFunc_sl_impl_Trans_impl_Trans), (f_slices_ContainsFunc_sl_impl_Trans_impl_Trans, ir_slices_ContainsFunc_sl_impl_Trans_impl_Trans), (f_impl_GoodNet, ir_impl_GoodNet), (f_impl_hasResets_1, ir_impl_hasResets_1), (f_impl_hasResets, ir_impl_hasResets), (f_impl_cloneNet, ir_impl_cloneNet), (f_impl_checkedNet, ir_impl_checkedNet), (f_impl_TurnNet, ir_impl_TurnNet), (f_spec_l1In, ir_spec_l1In), (f_spec_l1Places, ir_spec_l1Places), (f_spec_l1Rising, ir_spec_l1Rising), (f_spec_GoodNet, ir_spec_GoodNet), (f_spec_l2Resets, ir_spec_l2Resets), (f_spec_l1Own, ir_spec_l1Own), (f_spec_TurnNet, ir_spec_TurnNet), (f_laws_sameInts, ir_laws_sameInts), (f_laws_sameNet, ir_laws_sameNet), (f_laws_numberOf, ir_laws_numberOf), (f_impl_GoodMark, ir_impl_GoodMark), (f_impl_isMarked, ir_impl_isMarked), (f_impl_isTrans, ir_impl_isTrans), (f_impl_isEnabled_1, ir_impl_isEnabled_1), (f_slices_IndexFunc_sl_int_int, ir_slices_IndexFunc_sl_int_int), (f_slices_ContainsFunc_sl_int_int, ir_slices_ContainsFunc_sl_int_int), (f_impl_isEnabled, ir_impl_isEnabled), (f_impl_fired, ir_impl_fired), (f_impl_checkedMark, ir_impl_checkedMark), (f_impl_Fire, ir_impl_Fire), (f_spec_DrawTakersOf, ir_spec_DrawTakersOf), (f_slices_Index_sl_int_int, ir_slices_Index_sl_int_int), (f_slices_Contains_sl_int_int, ir_slices_Contains_sl_int_int), (f_impl_transWith, ir_impl_transWith), (f_impl_TakersOf_1, ir_impl_TakersOf_1), (f_impl_TakersOf, ir_impl_TakersOf), (f_spec_l1Has, ir_spec_l1Has), (f_spec_l2Takers, ir_spec_l2Takers), (f_spec_TakersOf, ir_spec_TakersOf), (f_impl_GiversOf_1, ir_impl_GiversOf_1), (f_impl_GiversOf, ir_impl_GiversOf), (f_spec_l2Givers, ir_spec_l2Givers), (f_spec_GiversOf, ir_spec_GiversOf), (f_impl_IsFreeChoice_1, ir_impl_IsFreeChoice_1), (f_slices_Equal_sl_int_int, ir_slices_Equal_sl_int_int), (f_impl_IsFreeChoice, ir_impl_IsFreeChoice), (f_spec_l2Meet, ir_spec_l2Meet), (f_spec_l1Same, ir_spec_l1Same), (f_spec_IsFreeChoice, ir_spec_IsFreeChoice), (f_impl_HasResets, ir_impl_HasResets), (f_spec_HasResets, ir_spec_HasResets), (f_laws_FnTurned, ir_laws_FnTurned)]
def F (f : FuncId) : Option IFun := (tbl.find? fun p => p.1 == f).map (·.2)
def exts : List (FuncId × (List PV → Option PV)) := [(f_slices_Clone_sl_int_int, ext_slices_Clone_sl_int_int)]
def ext (f : FuncId) : Option (List PV → Option PV) := (exts.find? fun p => p.1 == f).map (·.2)
noncomputable def C : Orc := lim F ext
theorem E_laws_big {args : List PV} {M : List Blk} {P : PV × List Blk → Prop} (h : W C M.length ir_laws_big.body ⟨start ir_laws_big args, M⟩ (Le' M.length ir_laws_big.results P)) : Lw (C f_laws_big args M) P := call_ex rfl rfl h
theorem C_laws_big {args : List PV} {M : List Blk} {r : PV × List Blk} (h : W C M.length ir_laws_big.body ⟨start ir_laws_big args, M⟩ (Lv M.length ir_laws_big.results r)) : C f_laws_big args M = some r := call_of rfl rfl h
theorem E_spec_l1Cur_next {args : List PV} {M : List Blk} {P : PV × List Blk → Prop} (h : W C M.length ir_spec_l1Cur_next.body ⟨start ir_spec_l1Cur_next args, M⟩ (Le' M.length ir_spec_l1Cur_next.results P)) : Lw (C f_spec_l1Cur_next args M) P := call_ex rfl rfl h
theorem C_spec_l1Cur_next {args : List PV} {M : List Blk} {r : PV × List Blk} (h : W C M.length ir_spec_l1Cur_next.body ⟨start ir_spec_l1Cur_next args, M⟩ (Lv M.length ir_spec_l1Cur_next.results r)) : C f_spec_l1Cur_next args M = some r := call_of rfl rfl h
theorem E_spec_l1Cur_pick {args : List PV} {M : List Blk} {P : PV × List Blk → Prop} (h : W C M.length ir_spec_l1Cur_pick.body ⟨start ir_spec_l1Cur_pick args, M⟩ (Le' M.length ir_spec_l1Cur_pick.results P)) : Lw (C f_spec_l1Cur_pick args M) P := call_ex rfl rfl h
theorem C_spec_l1Cur_pick {args : List PV} {M : List Blk} {r : PV × List Blk} (h : W C M.length ir_spec_l1Cur_pick.body ⟨start ir_spec_l1Cur_pick args, M⟩ (Lv M.length ir_spec_l1Cur_pick.results r)) : C f_spec_l1Cur_pick args M = some r := call_of rfl rfl h
theorem E_spec_l1Put {args : List PV} {M : List Blk} {P : PV × List Blk → Prop} (h : W C M.length ir_spec_l1Put.body ⟨start ir_spec_l1Put args, M⟩ (Le' M.length ir_spec_l1Put.results P)) : Lw (C f_spec_l1Put args M) P := call_ex rfl rfl h
theorem C_spec_l1Put {args : List PV} {M : List Blk} {r : PV × List Blk} (h : W C M.length ir_spec_l1Put.body ⟨start ir_spec_l1Put args, M⟩ (Lv M.length ir_spec_l1Put.results r)) : C f_spec_l1Put args M = some r := call_of rfl rfl h
theorem E_spec_l1Cur_someOf {args : List PV} {M : List Blk} {P : PV × List Blk → Prop} (h : W C M.length ir_spec_l1Cur_someOf.body ⟨start ir_spec_l1Cur_someOf args, M⟩ (Le' M.length ir_spec_l1Cur_someOf.results P)) : Lw (C f_spec_l1Cur_someOf args M) P := call_ex rfl rfl h
theorem C_spec_l1Cur_someOf {args : List PV} {M : List Blk} {r : PV × List Blk} (h : W C M.length ir_spec_l1Cur_someOf.body ⟨start ir_spec_l1Cur_someOf args, M⟩ (Lv M.length ir_spec_l1Cur_someOf.results r)) : C f_spec_l1Cur_someOf args M = some r := call_of rfl rfl h
theorem E_spec_l1Cur_one {args : List PV} {M : List Blk} {P : PV × List Blk → Prop} (h : W C M.length ir_spec_l1Cur_one.body ⟨start ir_spec_l1Cur_one args, M⟩ (Le' M.length ir_spec_l1Cur_one.results P)) : Lw (C f_spec_l1Cur_one args M) P := call_ex rfl rfl h
theorem C_spec_l1Cur_one {args : List PV} {M : List Blk} {r : PV × List Blk} (h : W C M.length ir_spec_l1Cur_one.body ⟨start ir_spec_l1Cur_one args, M⟩ (Lv M.length ir_spec_l1Cur_one.results r)) : C f_spec_l1Cur_one args M = some r := call_of rfl rfl h
theorem E_spec_l1Cur_among {args : List PV} {M : List Blk} {P : PV × List Blk → Prop} (h : W C M.length ir_spec_l1Cur_among.body ⟨start ir_spec_l1Cur_among args, M⟩ (Le' M.length ir_spec_l1Cur_among.results P)) : Lw (C f_spec_l1Cur_among args M) P := call_ex rfl rfl h
theorem C_spec_l1Cur_among {args : List PV} {M : List Blk} {r : PV × List Blk} (h : W C M.length ir_spec_l1Cur_among.body ⟨start ir_spec_l1Cur_among args, M⟩ (Lv M.length ir_spec_l1Cur_among.results r)) : C f_spec_l1Cur_among args M = some r := call_of rfl rfl h
theorem E_spec_l1Cur_net {args : List PV} {M : List Blk} {P : PV × List Blk → Prop} (h : W C M.length ir_spec_l1Cur_net.body ⟨start ir_spec_l1Cur_net args, M⟩ (Le' M.length ir_spec_l1Cur_net.results P)) : Lw (C f_spec_l1Cur_net args M) P := call_ex rfl rfl h
theorem C_spec_l1Cur_net {args : List PV} {M : List Blk} {r : PV × List Blk} (h : W C M.length ir_spec_l1Cur_net.body ⟨start ir_spec_l1Cur_net args, M⟩ (Lv M.length ir_spec_l1Cur_net.results r)) : C f_spec_l1Cur_net args M = some r := call_of rfl rfl h
theorem E_spec_DrawTurnNet {args : List PV} {M : List Blk} {P : PV × List Blk → Prop} (h : W C M.length ir_spec_DrawTurnNet.body ⟨start ir_spec_DrawTurnNet args, M⟩ (Le' M.length ir_spec_DrawTurnNet.results P)) : Lw (C f_spec_DrawTurnNet args M) P := call_ex rfl rfl h
theorem C_spec_DrawTurnNet {args : List PV} {M : List Blk} {r : PV × List Blk} (h : W C M.length ir_spec_DrawTurnNet.body ⟨start ir_spec_DrawTurnNet args, M⟩ (Lv M.length ir_spec_DrawTurnNet.results r)) : C f_spec_DrawTurnNet args M = some r := call_of rfl rfl h
theorem E_impl_within {args : List PV} {M : List Blk} {P : PV × List Blk → Prop} (h : W C M.length ir_impl_within.body ⟨start ir_impl_within args, M⟩ (Le' M.length ir_impl_within.results P)) : Lw (C f_impl_within args M) P := call_ex rfl rfl h
theorem C_impl_within {args : List PV} {M : List Blk} {r : PV × List Blk} (h : W C M.length ir_impl_within.body ⟨start ir_impl_within args, M⟩ (Lv M.length ir_impl_within.results r)) : C f_impl_within args M = some r := call_of rfl rfl h
theorem E_impl_increasing {args : List PV} {M : List Blk} {P : PV × List Blk → Prop} (h : W C M.length ir_impl_increasing.body ⟨start ir_impl_increasing args, M⟩ (Le' M.length ir_impl_increasing.results P)) : Lw (C f_impl_increasing args M) P := call_ex rfl rfl h
theorem C_impl_increasing {args : List PV} {M : List Blk} {r : PV × List Blk} (h : W C M.length ir_impl_increasing.body ⟨start ir_impl_increasing args, M⟩ (Lv M.length ir_impl_increasing.results r)) : C f_impl_increasing args M = some r := call_of rfl rfl h
theorem E_impl_allWithin {args : List PV} {M : List Blk} {P : PV × List Blk → Prop} (h : W C M.length ir_impl_allWithin.body ⟨start ir_impl_allWithin args, M⟩ (Le' M.length ir_impl_allWithin.results P)) : Lw (C f_impl_allWithin args M) P := call_ex rfl rfl h
theorem C_impl_allWithin {args : List PV} {M : List Blk} {r : PV × List Blk} (h : W C M.length ir_impl_allWithin.body ⟨start ir_impl_allWithin args, M⟩ (Lv M.length ir_impl_allWithin.results r)) : C f_impl_allWithin args M = some r := call_of rfl rfl h
theorem E_impl_arePlaces {args : List PV} {M : List Blk} {P : PV × List Blk → Prop} (h : W C M.length ir_impl_arePlaces.body ⟨start ir_impl_arePlaces args, M⟩ (Le' M.length ir_impl_arePlaces.results P)) : Lw (C f_impl_arePlaces args M) P := call_ex rfl rfl h
theorem C_impl_arePlaces {args : List PV} {M : List Blk} {r : PV × List Blk} (h : W C M.length ir_impl_arePlaces.body ⟨start ir_impl_arePlaces args, M⟩ (Lv M.length ir_impl_arePlaces.results r)) : C f_impl_arePlaces args M = some r := call_of rfl rfl h
theorem E_impl_GoodNet_1 {args : List PV} {M : List Blk} {P : PV × List Blk → Prop} (h : W C M.length ir_impl_GoodNet_1.body ⟨start ir_impl_GoodNet_1 args, M⟩ (Le' M.length ir_impl_GoodNet_1.results P)) : Lw (C f_impl_GoodNet_1 args M) P := call_ex rfl rfl h
theorem C_impl_GoodNet_1 {args : List PV} {M : List Blk} {r : PV × List Blk} (h : W C M.length ir_impl_GoodNet_1.body ⟨start ir_impl_GoodNet_1 args, M⟩ (Lv M.length ir_impl_GoodNet_1.results r)) : C f_impl_GoodNet_1 args M = some r := call_of rfl rfl h
theorem E_slices_IndexFunc_sl_impl_Trans_impl_Trans {args : List PV} {M : List Blk} {P : PV × List Blk → Prop} (h : W C M.length ir_slices_IndexFunc_sl_impl_Trans_impl_Trans.body ⟨start ir_slices_IndexFunc_sl_impl_Trans_impl_Trans args, M⟩ (Le' M.length ir_slices_IndexFunc_sl_impl_Trans_impl_Trans.results P)) : Lw (C f_slices_IndexFunc_sl_impl_Trans_impl_Trans args M) P := call_ex rfl rfl h
theorem C_slices_IndexFunc_sl_impl_Trans_impl_Trans {args : List PV} {M : List Blk} {r : PV × List Blk} (h : W C M.length ir_slices_IndexFunc_sl_impl_Trans_impl_Trans.body ⟨start ir_slices_IndexFunc_sl_impl_Trans_impl_Trans args, M⟩ (Lv M.length ir_slices_IndexFunc_sl_impl_Trans_impl_Trans.results r)) : C f_slices_IndexFunc_sl_impl_Trans_impl_Trans args M = some r := call_of rfl rfl h
theorem E_slices_ContainsFunc_sl_impl_Trans_impl_Trans {args : List PV} {M : List Blk} {P : PV × List Blk → Prop} (h : W C M.length ir_slices_ContainsFunc_sl_impl_Trans_impl_Trans.body ⟨start ir_slices_ContainsFunc_sl_impl_Trans_impl_Trans args, M⟩ (Le' M.length ir_slices_ContainsFunc_sl_impl_Trans_impl_Trans.results P)) : Lw (C f_slices_ContainsFunc_sl_impl_Trans_impl_Trans args M) P := call_ex rfl rfl h
theorem C_slices_ContainsFunc_sl_impl_Trans_impl_Trans {args : List PV} {M : List Blk} {r : PV × List Blk} (h : W C M.length ir_slices_ContainsFunc_sl_impl_Trans_impl_Trans.body ⟨start ir_slices_ContainsFunc_sl_impl_Trans_impl_Trans args, M⟩ (Lv M.length ir_slices_ContainsFunc_sl_impl_Trans_impl_Trans.results r)) : C f_slices_ContainsFunc_sl_impl_Trans_impl_Trans args M = some r := call_of rfl rfl h
theorem E_impl_GoodNet {args : List PV} {M : List Blk} {P : PV × List Blk → Prop} (h : W C M.length ir_impl_GoodNet.body ⟨start ir_impl_GoodNet args, M⟩ (Le' M.length ir_impl_GoodNet.results P)) : Lw (C f_impl_GoodNet args M) P := call_ex rfl rfl h
theorem C_impl_GoodNet {args : List PV} {M : List Blk} {r : PV × List Blk} (h : W C M.length ir_impl_GoodNet.body ⟨start ir_impl_GoodNet args, M⟩ (Lv M.length ir_impl_GoodNet.results r)) : C f_impl_GoodNet args M = some r := call_of rfl rfl h
theorem E_impl_hasResets_1 {args : List PV} {M : List Blk} {P : PV × List Blk → Prop} (h : W C M.length ir_impl_hasResets_1.body ⟨start ir_impl_hasResets_1 args, M⟩ (Le' M.length ir_impl_hasResets_1.results P)) : Lw (C f_impl_hasResets_1 args M) P := call_ex rfl rfl h
theorem C_impl_hasResets_1 {args : List PV} {M : List Blk} {r : PV × List Blk} (h : W C M.length ir_impl_hasResets_1.body ⟨start ir_impl_hasResets_1 args, M⟩ (Lv M.length ir_impl_hasResets_1.results r)) : C f_impl_hasResets_1 args M = some r := call_of rfl rfl h
theorem E_impl_hasResets {args : List PV} {M : List Blk} {P : PV × List Blk → Prop} (h : W C M.length ir_impl_hasResets.body ⟨start ir_impl_hasResets args, M⟩ (Le' M.length ir_impl_hasResets.results P)) : Lw (C f_impl_hasResets args M) P := call_ex rfl rfl h
theorem C_impl_hasResets {args : List PV} {M : List Blk} {r : PV × List Blk} (h : W C M.length ir_impl_hasResets.body ⟨start ir_impl_hasResets args, M⟩ (Lv M.length ir_impl_hasResets.results r)) : C f_impl_hasResets args M = some r := call_of rfl rfl h
theorem E_impl_cloneNet {args : List PV} {M : List Blk} {P : PV × List Blk → Prop} (h : W C M.length ir_impl_cloneNet.body ⟨start ir_impl_cloneNet args, M⟩ (Le' M.length ir_impl_cloneNet.results P)) : Lw (C f_impl_cloneNet args M) P := call_ex rfl rfl h
theorem C_impl_cloneNet {args : List PV} {M : List Blk} {r : PV × List Blk} (h : W C M.length ir_impl_cloneNet.body ⟨start ir_impl_cloneNet args, M⟩ (Lv M.length ir_impl_cloneNet.results r)) : C f_impl_cloneNet args M = some r := call_of rfl rfl h
theorem E_impl_checkedNet {args : List PV} {M : List Blk} {P : PV × List Blk → Prop} (h : W C M.length ir_impl_checkedNet.body ⟨start ir_impl_checkedNet args, M⟩ (Le' M.length ir_impl_checkedNet.results P)) : Lw (C f_impl_checkedNet args M) P := call_ex rfl rfl h
theorem C_impl_checkedNet {args : List PV} {M : List Blk} {r : PV × List Blk} (h : W C M.length ir_impl_checkedNet.body ⟨start ir_impl_checkedNet args, M⟩ (Lv M.length ir_impl_checkedNet.results r)) : C f_impl_checkedNet args M = some r := call_of rfl rfl h
theorem E_impl_TurnNet {args : List PV} {M : List Blk} {P : PV × List Blk → Prop} (h : W C M.length ir_impl_TurnNet.body ⟨start ir_impl_TurnNet args, M⟩ (Le' M.length ir_impl_TurnNet.results P)) : Lw (C f_impl_TurnNet args M) P := call_ex rfl rfl h
theorem C_impl_TurnNet {args : List PV} {M : List Blk} {r : PV × List Blk} (h : W C M.length ir_impl_TurnNet.body ⟨start ir_impl_TurnNet args, M⟩ (Lv M.length ir_impl_TurnNet.results r)) : C f_impl_TurnNet args M = some r := call_of rfl rfl h
theorem E_spec_l1In {args : List PV} {M : List Blk} {P : PV × List Blk → Prop} (h : W C M.length ir_spec_l1In.body ⟨start ir_spec_l1In args, M⟩ (Le' M.length ir_spec_l1In.results P)) : Lw (C f_spec_l1In args M) P := call_ex rfl rfl h
theorem C_spec_l1In {args : List PV} {M : List Blk} {r : PV × List Blk} (h : W C M.length ir_spec_l1In.body ⟨start ir_spec_l1In args, M⟩ (Lv M.length ir_spec_l1In.results r)) : C f_spec_l1In args M = some r := call_of rfl rfl h
theorem E_spec_l1Places {args : List PV} {M : List Blk} {P : PV × List Blk → Prop} (h : W C M.length ir_spec_l1Places.body ⟨start ir_spec_l1Places args, M⟩ (Le' M.length ir_spec_l1Places.results P)) : Lw (C f_spec_l1Places args M) P := call_ex rfl rfl h
theorem C_spec_l1Places {args : List PV} {M : List Blk} {r : PV × List Blk} (h : W C M.length ir_spec_l1Places.body ⟨start ir_spec_l1Places args, M⟩ (Lv M.length ir_spec_l1Places.results r)) : C f_spec_l1Places args M = some r := call_of rfl rfl h
theorem E_spec_l1Rising {args : List PV} {M : List Blk} {P : PV × List Blk → Prop} (h : W C M.length ir_spec_l1Rising.body ⟨start ir_spec_l1Rising args, M⟩ (Le' M.length ir_spec_l1Rising.results P)) : Lw (C f_spec_l1Rising args M) P := call_ex rfl rfl h
theorem C_spec_l1Rising {args : List PV} {M : List Blk} {r : PV × List Blk} (h : W C M.length ir_spec_l1Rising.body ⟨start ir_spec_l1Rising args, M⟩ (Lv M.length ir_spec_l1Rising.results r)) : C f_spec_l1Rising args M = some r := call_of rfl rfl h
theorem E_spec_GoodNet {args : List PV} {M : List Blk} {P : PV × List Blk → Prop} (h : W C M.length ir_spec_GoodNet.body ⟨start ir_spec_GoodNet args, M⟩ (Le' M.length ir_spec_GoodNet.results P)) : Lw (C f_spec_GoodNet args M) P := call_ex rfl rfl h
theorem C_spec_GoodNet {args : List PV} {M : List Blk} {r : PV × List Blk} (h : W C M.length ir_spec_GoodNet.body ⟨start ir_spec_GoodNet args, M⟩ (Lv M.length ir_spec_GoodNet.results r)) : C f_spec_GoodNet args M = some r := call_of rfl rfl h
theorem E_spec_l2Resets {args : List PV} {M : List Blk} {P : PV × List Blk → Prop} (h : W C M.length ir_spec_l2Resets.body ⟨start ir_spec_l2Resets args, M⟩ (Le' M.length ir_spec_l2Resets.results P)) : Lw (C f_spec_l2Resets args M) P := call_ex rfl rfl h
theorem C_spec_l2Resets {args : List PV} {M : List Blk} {r : PV × List Blk} (h : W C M.length ir_spec_l2Resets.body ⟨start ir_spec_l2Resets args, M⟩ (Lv M.length ir_spec_l2Resets.results r)) : C f_spec_l2Resets args M = some r := call_of rfl rfl h
theorem E_spec_l1Own {args : List PV} {M : List Blk} {P : PV × List Blk → Prop} (h : W C M.length ir_spec_l1Own.body ⟨start ir_spec_l1Own args, M⟩ (Le' M.length ir_spec_l1Own.results P)) : Lw (C f_spec_l1Own args M) P := call_ex rfl rfl h
theorem C_spec_l1Own {args : List PV} {M : List Blk} {r : PV × List Blk} (h : W C M.length ir_spec_l1Own.body ⟨start ir_spec_l1Own args, M⟩ (Lv M.length ir_spec_l1Own.results r)) : C f_spec_l1Own args M = some r := call_of rfl rfl h
theorem E_spec_TurnNet {args : List PV} {M : List Blk} {P : PV × List Blk → Prop} (h : W C M.length ir_spec_TurnNet.body ⟨start ir_spec_TurnNet args, M⟩ (Le' M.length ir_spec_TurnNet.results P)) : Lw (C f_spec_TurnNet args M) P := call_ex rfl rfl h
theorem C_spec_TurnNet {args : List PV} {M : List Blk} {r : PV × List Blk} (h : W C M.length ir_spec_TurnNet.body ⟨start ir_spec_TurnNet args, M⟩ (Lv M.length ir_spec_TurnNet.results r)) : C f_spec_TurnNet args M = some r := call_of rfl rfl h
theorem E_laws_sameInts {args : List PV} {M : List Blk} {P : PV × List Blk → Prop} (h : W C M.length ir_laws_sameInts.body ⟨start ir_laws_sameInts args, M⟩ (Le' M.length ir_laws_sameInts.results P)) : Lw (C f_laws_sameInts args M) P := call_ex rfl rfl h
theorem C_laws_sameInts {args : List PV} {M : List Blk} {r : PV × List Blk} (h : W C M.length ir_laws_sameInts.body ⟨start ir_laws_sameInts args, M⟩ (Lv M.length ir_laws_sameInts.results r)) : C f_laws_sameInts args M = some r := call_of rfl rfl h
theorem E_laws_sameNet {args : List PV} {M : List Blk} {P : PV × List Blk → Prop} (h : W C M.length ir_laws_sameNet.body ⟨start ir_laws_sameNet args, M⟩ (Le' M.length ir_laws_sameNet.results P)) : Lw (C f_laws_sameNet args M) P := call_ex rfl rfl h
theorem C_laws_sameNet {args : List PV} {M : List Blk} {r : PV × List Blk} (h : W C M.length ir_laws_sameNet.body ⟨start ir_laws_sameNet args, M⟩ (Lv M.length ir_laws_sameNet.results r)) : C f_laws_sameNet args M = some r := call_of rfl rfl h
theorem E_laws_numberOf {args : List PV} {M : List Blk} {P : PV × List Blk → Prop} (h : W C M.length ir_laws_numberOf.body ⟨start ir_laws_numberOf args, M⟩ (Le' M.length ir_laws_numberOf.results P)) : Lw (C f_laws_numberOf args M) P := call_ex rfl rfl h
theorem C_laws_numberOf {args : List PV} {M : List Blk} {r : PV × List Blk} (h : W C M.length ir_laws_numberOf.body ⟨start ir_laws_numberOf args, M⟩ (Lv M.length ir_laws_numberOf.results r)) : C f_laws_numberOf args M = some r := call_of rfl rfl h
theorem E_impl_GoodMark {args : List PV} {M : List Blk} {P : PV × List Blk → Prop} (h : W C M.length ir_impl_GoodMark.body ⟨start ir_impl_GoodMark args, M⟩ (Le' M.length ir_impl_GoodMark.results P)) : Lw (C f_impl_GoodMark args M) P := call_ex rfl rfl h
theorem C_impl_GoodMark {args : List PV} {M : List Blk} {r : PV × List Blk} (h : W C M.length ir_impl_GoodMark.body ⟨start ir_impl_GoodMark args, M⟩ (Lv M.length ir_impl_GoodMark.results r)) : C f_impl_GoodMark args M = some r := call_of rfl rfl h
theorem E_impl_isMarked {args : List PV} {M : List Blk} {P : PV × List Blk → Prop} (h : W C M.length ir_impl_isMarked.body ⟨start ir_impl_isMarked args, M⟩ (Le' M.length ir_impl_isMarked.results P)) : Lw (C f_impl_isMarked args M) P := call_ex rfl rfl h
theorem C_impl_isMarked {args : List PV} {M : List Blk} {r : PV × List Blk} (h : W C M.length ir_impl_isMarked.body ⟨start ir_impl_isMarked args, M⟩ (Lv M.length ir_impl_isMarked.results r)) : C f_impl_isMarked args M = some r := call_of rfl rfl h
theorem E_impl_isTrans {args : List PV} {M : List Blk} {P : PV × List Blk → Prop} (h : W C M.length ir_impl_isTrans.body ⟨start ir_impl_isTrans args, M⟩ (Le' M.length ir_impl_isTrans.results P)) : Lw (C f_impl_isTrans args M) P := call_ex rfl rfl h
theorem C_impl_isTrans {args : List PV} {M : List Blk} {r : PV × List Blk} (h : W C M.length ir_impl_isTrans.body ⟨start ir_impl_isTrans args, M⟩ (Lv M.length ir_impl_isTrans.results r)) : C f_impl_isTrans args M = some r := call_of rfl rfl h
theorem E_impl_isEnabled_1 {args : List PV} {M : List Blk} {P : PV × List Blk → Prop} (h : W C M.length ir_impl_isEnabled_1.body ⟨start ir_impl_isEnabled_1 args, M⟩ (Le' M.length ir_impl_isEnabled_1.results P)) : Lw (C f_impl_isEnabled_1 args M) P := call_ex rfl rfl h
theorem C_impl_isEnabled_1 {args : List PV} {M : List Blk} {r : PV × List Blk} (h : W C M.length ir_impl_isEnabled_1.body ⟨start ir_impl_isEnabled_1 args, M⟩ (Lv M.length ir_impl_isEnabled_1.results r)) : C f_impl_isEnabled_1 args M = some r := call_of rfl rfl h
theorem E_slices_IndexFunc_sl_int_int {args : List PV} {M : List Blk} {P : PV × List Blk → Prop} (h : W C M.length ir_slices_IndexFunc_sl_int_int.body ⟨start ir_slices_IndexFunc_sl_int_int args, M⟩ (Le' M.length ir_slices_IndexFunc_sl_int_int.results P)) : Lw (C f_slices_IndexFunc_sl_int_int args M) P := call_ex rfl rfl h
theorem C_slices_IndexFunc_sl_int_int {args : List PV} {M : List Blk} {r : PV × List Blk} (h : W C M.length ir_slices_IndexFunc_sl_int_int.body ⟨start ir_slices_IndexFunc_sl_int_int args, M⟩ (Lv M.length ir_slices_IndexFunc_sl_int_int.results r)) : C f_slices_IndexFunc_sl_int_int args M = some r := call_of rfl rfl h
theorem E_slices_ContainsFunc_sl_int_int {args : List PV} {M : List Blk} {P : PV × List Blk → Prop} (h : W C M.length ir_slices_ContainsFunc_sl_int_int.body ⟨start ir_slices_ContainsFunc_sl_int_int args, M⟩ (Le' M.length ir_slices_ContainsFunc_sl_int_int.results P)) : Lw (C f_slices_ContainsFunc_sl_int_int args M) P := call_ex rfl rfl h
theorem C_slices_ContainsFunc_sl_int_int {args : List PV} {M : List Blk} {r : PV × List Blk} (h : W C M.length ir_slices_ContainsFunc_sl_int_int.body ⟨start ir_slices_ContainsFunc_sl_int_int args, M⟩ (Lv M.length ir_slices_ContainsFunc_sl_int_int.results r)) : C f_slices_ContainsFunc_sl_int_int args M = some r := call_of rfl rfl h
theorem E_impl_isEnabled {args : List PV} {M : List Blk} {P : PV × List Blk → Prop} (h : W C M.length ir_impl_isEnabled.body ⟨start ir_impl_isEnabled args, M⟩ (Le' M.length ir_impl_isEnabled.results P)) : Lw (C f_impl_isEnabled args M) P := call_ex rfl rfl h
theorem C_impl_isEnabled {args : List PV} {M : List Blk} {r : PV × List Blk} (h : W C M.length ir_impl_isEnabled.body ⟨start ir_impl_isEnabled args, M⟩ (Lv M.length ir_impl_isEnabled.results r)) : C f_impl_isEnabled args M = some r := call_of rfl rfl h
theorem E_impl_fired {args : List PV} {M : List Blk} {P : PV × List Blk → Prop} (h : W C M.length ir_impl_fired.body ⟨start ir_impl_fired args, M⟩ (Le' M.length ir_impl_fired.results P)) : Lw (C f_impl_fired args M) P := call_ex rfl rfl h
theorem C_impl_fired {args : List PV} {M : List Blk} {r : PV × List Blk} (h : W C M.length ir_impl_fired.body ⟨start ir_impl_fired args, M⟩ (Lv M.length ir_impl_fired.results r)) : C f_impl_fired args M = some r := call_of rfl rfl h
theorem E_impl_checkedMark {args : List PV} {M : List Blk} {P : PV × List Blk → Prop} (h : W C M.length ir_impl_checkedMark.body ⟨start ir_impl_checkedMark args, M⟩ (Le' M.length ir_impl_checkedMark.results P)) : Lw (C f_impl_checkedMark args M) P := call_ex rfl rfl h
theorem C_impl_checkedMark {args : List PV} {M : List Blk} {r : PV × List Blk} (h : W C M.length ir_impl_checkedMark.body ⟨start ir_impl_checkedMark args, M⟩ (Lv M.length ir_impl_checkedMark.results r)) : C f_impl_checkedMark args M = some r := call_of rfl rfl h
theorem E_impl_Fire {args : List PV} {M : List Blk} {P : PV × List Blk → Prop} (h : W C M.length ir_impl_Fire.body ⟨start ir_impl_Fire args, M⟩ (Le' M.length ir_impl_Fire.results P)) : Lw (C f_impl_Fire args M) P := call_ex rfl rfl h
theorem C_impl_Fire {args : List PV} {M : List Blk} {r : PV × List Blk} (h : W C M.length ir_impl_Fire.body ⟨start ir_impl_Fire args, M⟩ (Lv M.length ir_impl_Fire.results r)) : C f_impl_Fire args M = some r := call_of rfl rfl h
theorem E_spec_DrawTakersOf {args : List PV} {M : List Blk} {P : PV × List Blk → Prop} (h : W C M.length ir_spec_DrawTakersOf.body ⟨start ir_spec_DrawTakersOf args, M⟩ (Le' M.length ir_spec_DrawTakersOf.results P)) : Lw (C f_spec_DrawTakersOf args M) P := call_ex rfl rfl h
theorem C_spec_DrawTakersOf {args : List PV} {M : List Blk} {r : PV × List Blk} (h : W C M.length ir_spec_DrawTakersOf.body ⟨start ir_spec_DrawTakersOf args, M⟩ (Lv M.length ir_spec_DrawTakersOf.results r)) : C f_spec_DrawTakersOf args M = some r := call_of rfl rfl h
theorem E_slices_Index_sl_int_int {args : List PV} {M : List Blk} {P : PV × List Blk → Prop} (h : W C M.length ir_slices_Index_sl_int_int.body ⟨start ir_slices_Index_sl_int_int args, M⟩ (Le' M.length ir_slices_Index_sl_int_int.results P)) : Lw (C f_slices_Index_sl_int_int args M) P := call_ex rfl rfl h
theorem C_slices_Index_sl_int_int {args : List PV} {M : List Blk} {r : PV × List Blk} (h : W C M.length ir_slices_Index_sl_int_int.body ⟨start ir_slices_Index_sl_int_int args, M⟩ (Lv M.length ir_slices_Index_sl_int_int.results r)) : C f_slices_Index_sl_int_int args M = some r := call_of rfl rfl h
theorem E_slices_Contains_sl_int_int {args : List PV} {M : List Blk} {P : PV × List Blk → Prop} (h : W C M.length ir_slices_Contains_sl_int_int.body ⟨start ir_slices_Contains_sl_int_int args, M⟩ (Le' M.length ir_slices_Contains_sl_int_int.results P)) : Lw (C f_slices_Contains_sl_int_int args M) P := call_ex rfl rfl h
theorem C_slices_Contains_sl_int_int {args : List PV} {M : List Blk} {r : PV × List Blk} (h : W C M.length ir_slices_Contains_sl_int_int.body ⟨start ir_slices_Contains_sl_int_int args, M⟩ (Lv M.length ir_slices_Contains_sl_int_int.results r)) : C f_slices_Contains_sl_int_int args M = some r := call_of rfl rfl h
theorem E_impl_transWith {args : List PV} {M : List Blk} {P : PV × List Blk → Prop} (h : W C M.length ir_impl_transWith.body ⟨start ir_impl_transWith args, M⟩ (Le' M.length ir_impl_transWith.results P)) : Lw (C f_impl_transWith args M) P := call_ex rfl rfl h
theorem C_impl_transWith {args : List PV} {M : List Blk} {r : PV × List Blk} (h : W C M.length ir_impl_transWith.body ⟨start ir_impl_transWith args, M⟩ (Lv M.length ir_impl_transWith.results r)) : C f_impl_transWith args M = some r := call_of rfl rfl h
theorem E_impl_TakersOf_1 {args : List PV} {M : List Blk} {P : PV × List Blk → Prop} (h : W C M.length ir_impl_TakersOf_1.body ⟨start ir_impl_TakersOf_1 args, M⟩ (Le' M.length ir_impl_TakersOf_1.results P)) : Lw (C f_impl_TakersOf_1 args M) P := call_ex rfl rfl h
theorem C_impl_TakersOf_1 {args : List PV} {M : List Blk} {r : PV × List Blk} (h : W C M.length ir_impl_TakersOf_1.body ⟨start ir_impl_TakersOf_1 args, M⟩ (Lv M.length ir_impl_TakersOf_1.results r)) : C f_impl_TakersOf_1 args M = some r := call_of rfl rfl h
theorem E_impl_TakersOf {args : List PV} {M : List Blk} {P : PV × List Blk → Prop} (h : W C M.length ir_impl_TakersOf.body ⟨start ir_impl_TakersOf args, M⟩ (Le' M.length ir_impl_TakersOf.results P)) : Lw (C f_impl_TakersOf args M) P := call_ex rfl rfl h
theorem C_impl_TakersOf {args : List PV} {M : List Blk} {r : PV × List Blk} (h : W C M.length ir_impl_TakersOf.body ⟨start ir_impl_TakersOf args, M⟩ (Lv M.length ir_impl_TakersOf.results r)) : C f_impl_TakersOf args M = some r := call_of rfl rfl h
theorem E_spec_l1Has {args : List PV} {M : List Blk} {P : PV × List Blk → Prop} (h : W C M.length ir_spec_l1Has.body ⟨start ir_spec_l1Has args, M⟩ (Le' M.length ir_spec_l1Has.results P)) : Lw (C f_spec_l1Has args M) P := call_ex rfl rfl h
theorem C_spec_l1Has {args : List PV} {M : List Blk} {r : PV × List Blk} (h : W C M.length ir_spec_l1Has.body ⟨start ir_spec_l1Has args, M⟩ (Lv M.length ir_spec_l1Has.results r)) : C f_spec_l1Has args M = some r := call_of rfl rfl h
theorem E_spec_l2Takers {args : List PV} {M : List Blk} {P : PV × List Blk → Prop} (h : W C M.length ir_spec_l2Takers.body ⟨start ir_spec_l2Takers args, M⟩ (Le' M.length ir_spec_l2Takers.results P)) : Lw (C f_spec_l2Takers args M) P := call_ex rfl rfl h
theorem C_spec_l2Takers {args : List PV} {M : List Blk} {r : PV × List Blk} (h : W C M.length ir_spec_l2Takers.body ⟨start ir_spec_l2Takers args, M⟩ (Lv M.length ir_spec_l2Takers.results r)) : C f_spec_l2Takers args M = some r := call_of rfl rfl h
theorem E_spec_TakersOf {args : List PV} {M : List Blk} {P : PV × List Blk → Prop} (h : W C M.length ir_spec_TakersOf.body ⟨start ir_spec_TakersOf args, M⟩ (Le' M.length ir_spec_TakersOf.results P)) : Lw (C f_spec_TakersOf args M) P := call_ex rfl rfl h
theorem C_spec_TakersOf {args : List PV} {M : List Blk} {r : PV × List Blk} (h : W C M.length ir_spec_TakersOf.body ⟨start ir_spec_TakersOf args, M⟩ (Lv M.length ir_spec_TakersOf.results r)) : C f_spec_TakersOf args M = some r := call_of rfl rfl h
theorem E_impl_GiversOf_1 {args : List PV} {M : List Blk} {P : PV × List Blk → Prop} (h : W C M.length ir_impl_GiversOf_1.body ⟨start ir_impl_GiversOf_1 args, M⟩ (Le' M.length ir_impl_GiversOf_1.results P)) : Lw (C f_impl_GiversOf_1 args M) P := call_ex rfl rfl h
theorem C_impl_GiversOf_1 {args : List PV} {M : List Blk} {r : PV × List Blk} (h : W C M.length ir_impl_GiversOf_1.body ⟨start ir_impl_GiversOf_1 args, M⟩ (Lv M.length ir_impl_GiversOf_1.results r)) : C f_impl_GiversOf_1 args M = some r := call_of rfl rfl h
theorem E_impl_GiversOf {args : List PV} {M : List Blk} {P : PV × List Blk → Prop} (h : W C M.length ir_impl_GiversOf.body ⟨start ir_impl_GiversOf args, M⟩ (Le' M.length ir_impl_GiversOf.results P)) : Lw (C f_impl_GiversOf args M) P := call_ex rfl rfl h
theorem C_impl_GiversOf {args : List PV} {M : List Blk} {r : PV × List Blk} (h : W C M.length ir_impl_GiversOf.body ⟨start ir_impl_GiversOf args, M⟩ (Lv M.length ir_impl_GiversOf.results r)) : C f_impl_GiversOf args M = some r := call_of rfl rfl h
theorem E_spec_l2Givers {args : List PV} {M : List Blk} {P : PV × List Blk → Prop} (h : W C M.length ir_spec_l2Givers.body ⟨start ir_spec_l2Givers args, M⟩ (Le' M.length ir_spec_l2Givers.results P)) : Lw (C f_spec_l2Givers args M) P := call_ex rfl rfl h
theorem C_spec_l2Givers {args : List PV} {M : List Blk} {r : PV × List Blk} (h : W C M.length ir_spec_l2Givers.body ⟨start ir_spec_l2Givers args, M⟩ (Lv M.length ir_spec_l2Givers.results r)) : C f_spec_l2Givers args M = some r := call_of rfl rfl h
theorem E_spec_GiversOf {args : List PV} {M : List Blk} {P : PV × List Blk → Prop} (h : W C M.length ir_spec_GiversOf.body ⟨start ir_spec_GiversOf args, M⟩ (Le' M.length ir_spec_GiversOf.results P)) : Lw (C f_spec_GiversOf args M) P := call_ex rfl rfl h
theorem C_spec_GiversOf {args : List PV} {M : List Blk} {r : PV × List Blk} (h : W C M.length ir_spec_GiversOf.body ⟨start ir_spec_GiversOf args, M⟩ (Lv M.length ir_spec_GiversOf.results r)) : C f_spec_GiversOf args M = some r := call_of rfl rfl h
theorem E_impl_IsFreeChoice_1 {args : List PV} {M : List Blk} {P : PV × List Blk → Prop} (h : W C M.length ir_impl_IsFreeChoice_1.body ⟨start ir_impl_IsFreeChoice_1 args, M⟩ (Le' M.length ir_impl_IsFreeChoice_1.results P)) : Lw (C f_impl_IsFreeChoice_1 args M) P := call_ex rfl rfl h
theorem C_impl_IsFreeChoice_1 {args : List PV} {M : List Blk} {r : PV × List Blk} (h : W C M.length ir_impl_IsFreeChoice_1.body ⟨start ir_impl_IsFreeChoice_1 args, M⟩ (Lv M.length ir_impl_IsFreeChoice_1.results r)) : C f_impl_IsFreeChoice_1 args M = some r := call_of rfl rfl h
theorem E_slices_Equal_sl_int_int {args : List PV} {M : List Blk} {P : PV × List Blk → Prop} (h : W C M.length ir_slices_Equal_sl_int_int.body ⟨start ir_slices_Equal_sl_int_int args, M⟩ (Le' M.length ir_slices_Equal_sl_int_int.results P)) : Lw (C f_slices_Equal_sl_int_int args M) P := call_ex rfl rfl h
theorem C_slices_Equal_sl_int_int {args : List PV} {M : List Blk} {r : PV × List Blk} (h : W C M.length ir_slices_Equal_sl_int_int.body ⟨start ir_slices_Equal_sl_int_int args, M⟩ (Lv M.length ir_slices_Equal_sl_int_int.results r)) : C f_slices_Equal_sl_int_int args M = some r := call_of rfl rfl h
theorem E_impl_IsFreeChoice {args : List PV} {M : List Blk} {P : PV × List Blk → Prop} (h : W C M.length ir_impl_IsFreeChoice.body ⟨start ir_impl_IsFreeChoice args, M⟩ (Le' M.length ir_impl_IsFreeChoice.results P)) : Lw (C f_impl_IsFreeChoice args M) P := call_ex rfl rfl h
theorem C_impl_IsFreeChoice {args : List PV} {M : List Blk} {r : PV × List Blk} (h : W C M.length ir_impl_IsFreeChoice.body ⟨start ir_impl_IsFreeChoice args, M⟩ (Lv M.length ir_impl_IsFreeChoice.results r)) : C f_impl_IsFreeChoice args M = some r := call_of rfl rfl h
theorem E_spec_l2Meet {args : List PV} {M : List Blk} {P : PV × List Blk → Prop} (h : W C M.length ir_spec_l2Meet.body ⟨start ir_spec_l2Meet args, M⟩ (Le' M.length ir_spec_l2Meet.results P)) : Lw (C f_spec_l2Meet args M) P := call_ex rfl rfl h
theorem C_spec_l2Meet {args : List PV} {M : List Blk} {r : PV × List Blk} (h : W C M.length ir_spec_l2Meet.body ⟨start ir_spec_l2Meet args, M⟩ (Lv M.length ir_spec_l2Meet.results r)) : C f_spec_l2Meet args M = some r := call_of rfl rfl h
theorem E_spec_l1Same {args : List PV} {M : List Blk} {P : PV × List Blk → Prop} (h : W C M.length ir_spec_l1Same.body ⟨start ir_spec_l1Same args, M⟩ (Le' M.length ir_spec_l1Same.results P)) : Lw (C f_spec_l1Same args M) P := call_ex rfl rfl h
theorem C_spec_l1Same {args : List PV} {M : List Blk} {r : PV × List Blk} (h : W C M.length ir_spec_l1Same.body ⟨start ir_spec_l1Same args, M⟩ (Lv M.length ir_spec_l1Same.results r)) : C f_spec_l1Same args M = some r := call_of rfl rfl h
theorem E_spec_IsFreeChoice {args : List PV} {M : List Blk} {P : PV × List Blk → Prop} (h : W C M.length ir_spec_IsFreeChoice.body ⟨start ir_spec_IsFreeChoice args, M⟩ (Le' M.length ir_spec_IsFreeChoice.results P)) : Lw (C f_spec_IsFreeChoice args M) P := call_ex rfl rfl h
theorem C_spec_IsFreeChoice {args : List PV} {M : List Blk} {r : PV × List Blk} (h : W C M.length ir_spec_IsFreeChoice.body ⟨start ir_spec_IsFreeChoice args, M⟩ (Lv M.length ir_spec_IsFreeChoice.results r)) : C f_spec_IsFreeChoice args M = some r := call_of rfl rfl h
theorem E_impl_HasResets {args : List PV} {M : List Blk} {P : PV × List Blk → Prop} (h : W C M.length ir_impl_HasResets.body ⟨start ir_impl_HasResets args, M⟩ (Le' M.length ir_impl_HasResets.results P)) : Lw (C f_impl_HasResets args M) P := call_ex rfl rfl h
theorem C_impl_HasResets {args : List PV} {M : List Blk} {r : PV × List Blk} (h : W C M.length ir_impl_HasResets.body ⟨start ir_impl_HasResets args, M⟩ (Lv M.length ir_impl_HasResets.results r)) : C f_impl_HasResets args M = some r := call_of rfl rfl h
theorem E_spec_HasResets {args : List PV} {M : List Blk} {P : PV × List Blk → Prop} (h : W C M.length ir_spec_HasResets.body ⟨start ir_spec_HasResets args, M⟩ (Le' M.length ir_spec_HasResets.results P)) : Lw (C f_spec_HasResets args M) P := call_ex rfl rfl h
theorem C_spec_HasResets {args : List PV} {M : List Blk} {r : PV × List Blk} (h : W C M.length ir_spec_HasResets.body ⟨start ir_spec_HasResets args, M⟩ (Lv M.length ir_spec_HasResets.results r)) : C f_spec_HasResets args M = some r := call_of rfl rfl h
theorem E_laws_FnTurned {args : List PV} {M : List Blk} {P : PV × List Blk → Prop} (h : W C M.length ir_laws_FnTurned.body ⟨start ir_laws_FnTurned args, M⟩ (Le' M.length ir_laws_FnTurned.results P)) : Lw (C f_laws_FnTurned args M) P := call_ex rfl rfl h
theorem C_laws_FnTurned {args : List PV} {M : List Blk} {r : PV × List Blk} (h : W C M.length ir_laws_FnTurned.body ⟨start ir_laws_FnTurned args, M⟩ (Lv M.length ir_laws_FnTurned.results r)) : C f_laws_FnTurned args M = some r := call_of rfl rfl h
theorem slices_Clone_sl_int_int_ok {es : List PV} (h : es.length ≤ 68719476736) : C f_slices_Clone_sl_int_int [.sl true 1 es] [] = some (.un t_int true 1 es, []) := lim_ext (e := ext_slices_Clone_sl_int_int) rfl (by simp [ext_slices_Clone_sl_int_int, extClone, h])
end Go.Proofs.Ytngjepmopahgdaa.Pi
