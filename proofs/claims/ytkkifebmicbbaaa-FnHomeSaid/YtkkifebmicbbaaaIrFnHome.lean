/- The forms of the functions that the law reaches, and their oracle. Definitions alone; no condition. -/
import Derived.Test.YtkkifebmicbbaaaPiExt
namespace Go.Proofs.Ytkkifebmicbbaaa.Pi
open Go
set_option linter.all false
abbrev t_int : TypeId := 3
abbrev t_bool : TypeId := 4
abbrev t_impl_Net : TypeId := 30
abbrev t_impl_Flow : TypeId := 32
abbrev t_sl_int : TypeId := 48
abbrev t_impl_Space : TypeId := 108
abbrev t_spec_l1Cur : TypeId := 121
abbrev t_impl_Arc : TypeId := 142
abbrev t_impl_Trans : TypeId := 151
abbrev f_laws_big : FuncId := 34
abbrev f_spec_l1Cur_next : FuncId := 184
abbrev f_spec_l1Cur_pick : FuncId := 105
abbrev f_spec_l1Cur_one : FuncId := 107
abbrev f_spec_l1Put : FuncId := 135
abbrev f_spec_l1Cur_grow : FuncId := 214
abbrev f_spec_l1Cur_someOf : FuncId := 215
abbrev f_spec_l1Cur_among : FuncId := 104
abbrev f_spec_l1Cur_flow : FuncId := 171
abbrev f_spec_l1In : FuncId := 71
abbrev f_spec_l1Places : FuncId := 111
abbrev f_spec_l1Rising : FuncId := 226
abbrev f_spec_GoodNet : FuncId := 193
abbrev f_spec_l3Forward : FuncId := 204
abbrev f_spec_l3Back : FuncId := 205
abbrev f_spec_l3Both : FuncId := 206
abbrev f_spec_OnWay : FuncId := 153
abbrev f_spec_l1Has : FuncId := 147
abbrev f_spec_GoodFlow : FuncId := 77
abbrev f_spec_l3One : FuncId := 216
abbrev f_spec_StartOf : FuncId := 172
abbrev f_spec_l1Cur_net : FuncId := 173
abbrev f_spec_l1Most : FuncId := 217
abbrev f_spec_l1Cur_markOf : FuncId := 174
abbrev f_spec_l1Cur_walked : FuncId := 95
abbrev f_spec_l1Cur_budget : FuncId := 96
abbrev f_spec_l1Own : FuncId := 122
abbrev f_spec_l1All : FuncId := 168
abbrev f_spec_GoodMark : FuncId := 92
abbrev f_spec_l2Marked : FuncId := 218
abbrev f_spec_l2Can : FuncId := 220
abbrev f_spec_l2Enabled : FuncId := 219
abbrev f_spec_Enabled : FuncId := 175
abbrev f_spec_l2Fire : FuncId := 221
abbrev f_spec_Fire : FuncId := 176
abbrev f_spec_l1Cur_metMark : FuncId := 97
abbrev f_spec_DrawWayTo : FuncId := 40
abbrev f_spec_DrawIsHome : FuncId := 35
abbrev f_impl_within : FuncId := 108
abbrev f_impl_increasing : FuncId := 237
abbrev f_impl_allWithin : FuncId := 163
abbrev f_impl_arePlaces : FuncId := 208
abbrev f_impl_GoodNet_1 : FuncId := 207
abbrev f_slices_IndexFunc_sl_impl_Trans_impl_Trans : FuncId := 203
abbrev f_slices_ContainsFunc_sl_impl_Trans_impl_Trans : FuncId := 148
abbrev f_impl_GoodNet : FuncId := 156
abbrev f_impl_GoodMark : FuncId := 87
abbrev f_impl_isMarked : FuncId := 100
abbrev f_slices_Clone_sl_int_int : FuncId := 102
abbrev f_impl_isEnabled_1 : FuncId := 223
abbrev f_slices_IndexFunc_sl_int_int : FuncId := 240
abbrev f_slices_ContainsFunc_sl_int_int : FuncId := 222
abbrev f_impl_isEnabled : FuncId := 181
abbrev f_impl_enabled : FuncId := 239
abbrev f_impl_fired : FuncId := 183
abbrev f_slices_Equal_sl_int_int : FuncId := 160
abbrev f_impl_Space_find_1 : FuncId := 165
abbrev f_slices_IndexFunc_sl_sl_int_sl_int : FuncId := 164
abbrev f_impl_Space_find : FuncId := 88
abbrev f_impl_explore : FuncId := 211
abbrev f_impl_Explore : FuncId := 162
abbrev f_impl_wholeSpace : FuncId := 86
abbrev f_impl_Space_leadingTo : FuncId := 90
abbrev f_slices_Index_sl_bool_bool : FuncId := 166
abbrev f_slices_Contains_sl_bool_bool : FuncId := 89
abbrev f_impl_IsHome : FuncId := 36
abbrev f_spec_l4Asked : FuncId := 212
abbrev f_spec_l1Same : FuncId := 169
abbrev f_spec_l4Find : FuncId := 93
abbrev f_spec_l4Explore : FuncId := 213
abbrev f_spec_Explore : FuncId := 167
abbrev f_spec_l4All : FuncId := 91
abbrev f_spec_l4To : FuncId := 170
abbrev f_spec_l4Everywhere : FuncId := 94
abbrev f_spec_IsHome : FuncId := 37
abbrev f_impl_CanCome : FuncId := 38
abbrev f_spec_CanCome : FuncId := 39
abbrev f_impl_Space_wayTo_1 : FuncId := 178
abbrev f_slices_IndexFunc_sl_impl_Arc_impl_Arc : FuncId := 177
abbrev f_slices_Reverse_sl_int_int : FuncId := 179
abbrev f_impl_Space_wayTo : FuncId := 98
abbrev f_impl_WayTo : FuncId := 41
abbrev f_spec_l4Way : FuncId := 99
abbrev f_spec_WayTo : FuncId := 42
abbrev f_laws_sameInts : FuncId := 43
abbrev f_impl_areTrans : FuncId := 101
abbrev f_impl_isTrans : FuncId := 180
abbrev f_impl_checkedMark : FuncId := 182
abbrev f_impl_Fire : FuncId := 103
abbrev f_impl_FireAll : FuncId := 44
abbrev f_laws_FnHome : FuncId := 8
def ext_slices_Clone_sl_int_int : List PV → Option PV := extClone t_int true 1
def ir_laws_big : IFun := ⟨[0, 1, 4],
  (.seq (.region false [] [⟨some 2, .mov (.c (.bool false)), none⟩])
  (.seq (.region false [] [⟨none, .mov (.v 0), none⟩, ⟨none, .len false (.r 0), none⟩, ⟨none, .bin false .gtr (.r 1) (.c (.int .i64 1048576)), none⟩, ⟨none, .mov (.r 2), none⟩, ⟨none, .mov (.v 1), some (3, false)⟩, ⟨none, .len false (.r 4), some (3, false)⟩, ⟨none, .mov (.v 0), some (3, false)⟩, ⟨none, .len false (.r 6), some (3, false)⟩, ⟨none, .bin false .sub (.c (.int .i64 1048576)) (.r 7), some (3, false)⟩, ⟨none, .bin false .gtr (.r 5) (.r 8), some (3, false)⟩, ⟨none, .pick (.r 3) (.c (.bool true)) (.r 9), none⟩, ⟨some 2, .mov (.r 10), none⟩])
  .ret)),
  [.v 2]⟩
def ir_spec_l1Cur_next : IFun := ⟨[0, 2, 3, 13, 53],
  (.seq (.region false [] [⟨some 1, .mov (.c (.int .i64 0)), none⟩])
  (.seq (.region false [] [⟨some 2, .mov (.c (.int .i64 0)), none⟩])
  (.seq (.seq (.region true [] [⟨none, .mov (.v 0), none⟩, ⟨none, .ncheck (.r 0), none⟩, ⟨none, .faddr 1 (.r 1), none⟩, ⟨none, .load false 1 (.r 2), none⟩, ⟨none, .mov (.v 0), none⟩, ⟨none, .ncheck (.r 4), none⟩, ⟨none, .faddr 0 (.r 5), none⟩, ⟨none, .load false 1 (.r 6), none⟩, ⟨none, .len false (.r 7), none⟩, ⟨some 3, .bin false .lss (.r 3) (.r 8), none⟩])
  (.cond (.v 3) (.region true [] [⟨none, .mov (.v 0), none⟩, ⟨none, .ncheck (.r 0), none⟩, ⟨none, .faddr 0 (.r 1), none⟩, ⟨none, .load false 1 (.r 2), none⟩, ⟨none, .mov (.v 0), none⟩, ⟨none, .ncheck (.r 4), none⟩, ⟨none, .faddr 1 (.r 5), none⟩, ⟨none, .load false 1 (.r 6), none⟩, ⟨none, .iaddr 1 (.r 3) (.r 7), none⟩, ⟨none, .load false 1 (.r 8), none⟩, ⟨none, .conv .i64 (.r 9), none⟩, ⟨some 2, .mov (.r 10), none⟩]) .skip))
  (.seq (.region false [] [⟨none, .mov (.v 0), none⟩, ⟨none, .ncheck (.r 0), none⟩, ⟨none, .faddr 1 (.r 1), none⟩, ⟨none, .load false 1 (.r 2), none⟩, ⟨none, .bin false .add (.r 3) (.c (.int .i64 1)), none⟩, ⟨none, .ncheck (.r 0), none⟩, ⟨none, .faddr 1 (.r 5), none⟩, ⟨none, .store 1 (.r 6) (.r 4), none⟩])
  (.seq (.region false [] [⟨none, .mov (.v 0), none⟩, ⟨none, .mov (.v 0), none⟩, ⟨none, .ncheck (.r 1), none⟩, ⟨none, .faddr 2 (.r 2), none⟩, ⟨none, .load false 1 (.r 3), none⟩, ⟨none, .bin false .mul (.r 4) (.c (.int .u64 6364136223846793005)), none⟩, ⟨none, .mov (.v 2), none⟩, ⟨none, .conv .u64 (.r 6), none⟩, ⟨none, .bin false .add (.r 5) (.r 7), none⟩, ⟨none, .bin false .add (.r 8) (.c (.int .u64 1442695040888963407)), none⟩, ⟨none, .ncheck (.r 0), none⟩, ⟨none, .faddr 2 (.r 10), none⟩, ⟨none, .store 1 (.r 11) (.r 9), none⟩])
  (.seq (.seq (.region true [] [⟨none, .mov (.v 0), none⟩, ⟨none, .ncheck (.r 0), none⟩, ⟨none, .faddr 1 (.r 1), none⟩, ⟨none, .load false 1 (.r 2), none⟩, ⟨none, .mov (.v 0), none⟩, ⟨none, .ncheck (.r 4), none⟩, ⟨none, .faddr 0 (.r 5), none⟩, ⟨none, .load false 1 (.r 6), none⟩, ⟨none, .len false (.r 7), none⟩, ⟨some 4, .bin false .leq (.r 3) (.r 8), none⟩])
  (.cond (.v 4) (.seq (.region false [] [⟨none, .mov (.v 2), none⟩, ⟨some 1, .mov (.r 0), none⟩])
  .ret) .skip))
  (.seq (.region false [] [⟨none, .mov (.v 0), none⟩, ⟨none, .ncheck (.r 0), none⟩, ⟨none, .faddr 2 (.r 1), none⟩, ⟨none, .load false 1 (.r 2), none⟩, ⟨none, .bin false .shr (.r 3) (.c (.int .u64 40)), none⟩, ⟨none, .bin false .and (.r 4) (.c (.int .u64 255)), none⟩, ⟨none, .conv .i64 (.r 5), none⟩, ⟨some 1, .mov (.r 6), none⟩])
  .ret))))))),
  [.v 1]⟩
def ir_spec_l1Cur_pick : IFun := ⟨[0, 1, 4, 5, 7, 11],
  (.seq (.region false [] [⟨some 2, .mov (.c (.int .i64 0)), none⟩])
  (.seq (.seq (.region false [] [⟨none, .mov (.v 1), none⟩, ⟨some 4, .bin false .leq (.r 0) (.c (.int .i64 1)), none⟩])
  (.cond (.v 4) (.seq (.region false [] [⟨some 2, .mov (.c (.int .i64 0)), none⟩])
  .ret) .skip))
  (.seq (.region false [] [⟨none, .mov (.v 0), none⟩, ⟨none, .callm f_spec_l1Cur_next [(.r 0)], none⟩, ⟨some 3, .mov (.r 1), none⟩])
  (.seq (.seq (.region false [] [⟨none, .mov (.v 1), none⟩, ⟨some 5, .bin false .gtr (.r 0) (.c (.int .i64 200)), none⟩])
  (.cond (.v 5) (.region false [] [⟨none, .mov (.v 3), none⟩, ⟨none, .bin false .mul (.r 0) (.c (.int .i64 256)), none⟩, ⟨none, .mov (.v 0), none⟩, ⟨none, .callm f_spec_l1Cur_next [(.r 2)], none⟩, ⟨none, .bin false .add (.r 1) (.r 3), none⟩, ⟨some 3, .mov (.r 4), none⟩]) .skip))
  (.seq (.region false [] [⟨none, .mov (.v 3), none⟩, ⟨none, .mov (.v 1), none⟩, ⟨none, .bin false .rem (.r 0) (.r 1), none⟩, ⟨some 2, .mov (.r 2), none⟩])
  .ret))))),
  [.v 2]⟩
def ir_spec_l1Cur_one : IFun := ⟨[0, 1, 4],
  (.seq (.region false [] [⟨some 2, .mov (.c (.bool false)), none⟩])
  (.seq (.region false [] [⟨none, .mov (.v 0), none⟩, ⟨none, .mov (.v 1), none⟩, ⟨none, .callm f_spec_l1Cur_pick [(.r 0), (.r 1)], none⟩, ⟨none, .bin false .eql (.r 2) (.c (.int .i64 0)), none⟩, ⟨some 2, .mov (.r 3), none⟩])
  .ret)),
  [.v 2]⟩
def ir_spec_l1Put : IFun := ⟨[0, 1, 4, 5, 6, 18, 32],
  (.seq (.region false [] [⟨some 2, .nilrow t_int true 1, none⟩])
  (.seq (.region false [] [⟨some 3, .mov (.c (.int .i64 0)), none⟩])
  (.seq (.block 0 (.loop [true, true, false, true, false, false, false] (.seq (.seq (.region false [] [⟨none, .mov (.v 3), none⟩, ⟨none, .mov (.v 0), none⟩, ⟨none, .len false (.r 1), none⟩, ⟨none, .bin false .lss (.r 0) (.r 2), none⟩, ⟨none, .mov (.r 3), none⟩, ⟨none, .mov (.v 0), some (4, true)⟩, ⟨none, .mov (.v 3), some (4, true)⟩, ⟨none, .iaddr 1 (.r 5) (.r 6), some (4, true)⟩, ⟨none, .load false 1 (.r 7), some (4, true)⟩, ⟨none, .mov (.v 1), some (4, true)⟩, ⟨none, .bin false .lss (.r 8) (.r 9), some (4, true)⟩, ⟨some 5, .pick (.r 4) (.r 10) (.c (.bool false)), none⟩])
  (.cond (.v 5) .skip (.exit 0)))
  (.block 1 (.region false [] [⟨none, .mov (.v 3), none⟩, ⟨none, .bin false .add (.r 0) (.c (.int .i64 1)), none⟩, ⟨some 3, .mov (.r 1), none⟩])))))
  (.seq (.seq (.region false [] [⟨none, .mov (.v 3), none⟩, ⟨none, .mov (.v 0), none⟩, ⟨none, .len false (.r 1), none⟩, ⟨none, .bin false .lss (.r 0) (.r 2), none⟩, ⟨none, .mov (.r 3), none⟩, ⟨none, .mov (.v 0), some (4, true)⟩, ⟨none, .mov (.v 3), some (4, true)⟩, ⟨none, .iaddr 1 (.r 5) (.r 6), some (4, true)⟩, ⟨none, .load false 1 (.r 7), some (4, true)⟩, ⟨none, .mov (.v 1), some (4, true)⟩, ⟨none, .bin false .eql (.r 8) (.r 9), some (4, true)⟩, ⟨some 6, .pick (.r 4) (.r 10) (.c (.bool false)), none⟩])
  (.cond (.v 6) (.seq (.region false [] [⟨none, .mov (.v 0), none⟩, ⟨some 2, .mov (.r 0), none⟩])
  .ret) .skip))
  (.seq (.region false [] [⟨none, .bslice false t_int true 1 [], none⟩, ⟨none, .mov (.v 0), none⟩, ⟨none, .mov (.v 3), none⟩, ⟨none, .slice 1 (.r 1) none (some (.r 2)), none⟩, ⟨none, .append t_int true 1 (.r 0) (.r 3), none⟩, ⟨some 4, .mov (.r 4), none⟩])
  (.seq (.region false [] [⟨none, .mov (.v 4), none⟩, ⟨none, .mov (.v 1), none⟩, ⟨none, .bslice false t_int true 1 [(.r 1)], none⟩, ⟨none, .append t_int true 1 (.r 0) (.r 2), none⟩, ⟨some 4, .mov (.r 3), none⟩])
  (.seq (.region false [] [⟨none, .mov (.v 4), none⟩, ⟨none, .mov (.v 0), none⟩, ⟨none, .mov (.v 3), none⟩, ⟨none, .slice 1 (.r 1) (some (.r 2)) none, none⟩, ⟨none, .append t_int true 1 (.r 0) (.r 3), none⟩, ⟨some 2, .mov (.r 4), none⟩])
  .ret))))))),
  [.v 2]⟩
def ir_spec_l1Cur_grow : IFun := ⟨[0, 1, 2, 3, 4, 10, 27, 47, 91, 115, 131],
  (.seq (.seq (.region false [] [⟨none, .mov (.v 4), none⟩, ⟨none, .bin false .eql (.r 0) (.c (.int .i64 0)), none⟩, ⟨none, .mov (.r 1), none⟩, ⟨none, .mov (.v 1), some (2, false)⟩, ⟨none, .ncheck (.r 3), some (2, false)⟩, ⟨none, .faddr 0 (.r 4), some (2, false)⟩, ⟨none, .load false 1 (.r 5), some (2, false)⟩, ⟨none, .bin false .gtr (.r 6) (.c (.int .i64 9)), some (2, false)⟩, ⟨none, .pick (.r 2) (.c (.bool true)) (.r 7), none⟩, ⟨none, .mov (.r 8), none⟩, ⟨none, .mov (.v 1), some (9, false)⟩, ⟨none, .ncheck (.r 10), some (9, false)⟩, ⟨none, .faddr 1 (.r 11), some (9, false)⟩, ⟨none, .load false 1 (.r 12), some (9, false)⟩, ⟨none, .len false (.r 13), some (9, false)⟩, ⟨none, .bin false .gtr (.r 14) (.c (.int .i64 12)), some (9, false)⟩, ⟨some 6, .pick (.r 9) (.c (.bool true)) (.r 15), none⟩])
  (.cond (.v 6) (.seq (.region false [] [⟨none, .mov (.v 1), none⟩, ⟨none, .mov (.v 1), none⟩, ⟨none, .ncheck (.r 1), none⟩, ⟨none, .faddr 1 (.r 2), none⟩, ⟨none, .load false 1 (.r 3), none⟩, ⟨none, .mov (.v 2), none⟩, ⟨none, .bslice false t_int true 1 [(.r 5)], none⟩, ⟨none, .mov (.v 3), none⟩, ⟨none, .bslice false t_int true 1 [(.r 7)], none⟩, ⟨none, .build [(.nil true 1), (.nil true 1), (.nil true 1)] [(0, 1, (.r 6)), (1, 1, (.r 8))], none⟩, ⟨none, .bslice false t_impl_Trans false 3 [(.r 9)], none⟩, ⟨none, .append t_impl_Trans false 3 (.r 4) (.r 10), none⟩, ⟨none, .ncheck (.r 0), none⟩, ⟨none, .faddr 1 (.r 12), none⟩, ⟨none, .store 1 (.r 13) (.r 11), none⟩])
  .ret) .skip))
  (.seq (.region false [] [⟨none, .mov (.v 1), none⟩, ⟨none, .ncheck (.r 0), none⟩, ⟨none, .faddr 0 (.r 1), none⟩, ⟨none, .load false 1 (.r 2), none⟩, ⟨some 5, .mov (.r 3), none⟩])
  (.seq (.region false [] [⟨none, .mov (.v 0), none⟩, ⟨some 7, .callm f_spec_l1Cur_pick [(.r 0), (.c (.int .i64 5))], none⟩])
  (.block 0 (.seq (.seq (.region false [] [⟨none, .bin false .eql (.v 7) (.c (.int .i64 0)), none⟩, ⟨some 8, .mov (.r 0), none⟩])
  (.cond (.v 8) .skip (.region false [] [⟨none, .bin false .eql (.v 7) (.c (.int .i64 1)), none⟩, ⟨some 8, .mov (.r 0), none⟩])))
  (.cond (.v 8) (.seq (.region false [] [⟨none, .mov (.v 1), none⟩, ⟨none, .ncheck (.r 0), none⟩, ⟨none, .faddr 0 (.r 1), none⟩, ⟨none, .load false 1 (.r 2), none⟩, ⟨none, .bin false .add (.r 3) (.c (.int .i64 1)), none⟩, ⟨none, .ncheck (.r 0), none⟩, ⟨none, .faddr 0 (.r 5), none⟩, ⟨none, .store 1 (.r 6) (.r 4), none⟩])
  (.seq (.region false [] [⟨none, .mov (.v 0), none⟩, ⟨none, .mov (.v 1), none⟩, ⟨none, .mov (.v 2), none⟩, ⟨none, .mov (.v 5), none⟩, ⟨none, .mov (.v 4), none⟩, ⟨none, .bin false .sub (.r 4) (.c (.int .i64 1)), none⟩, ⟨none, .callm f_spec_l1Cur_grow [(.r 0), (.r 1), (.r 2), (.r 3), (.r 5)], none⟩])
  (.region false [] [⟨none, .mov (.v 0), none⟩, ⟨none, .mov (.v 1), none⟩, ⟨none, .mov (.v 5), none⟩, ⟨none, .mov (.v 3), none⟩, ⟨none, .mov (.v 4), none⟩, ⟨none, .bin false .sub (.r 4) (.c (.int .i64 1)), none⟩, ⟨none, .callm f_spec_l1Cur_grow [(.r 0), (.r 1), (.r 2), (.r 3), (.r 5)], none⟩]))) (.seq (.region false [] [⟨none, .bin false .eql (.v 7) (.c (.int .i64 2)), none⟩, ⟨some 9, .mov (.r 0), none⟩])
  (.cond (.v 9) (.seq (.region false [] [⟨none, .mov (.v 0), none⟩, ⟨none, .mov (.v 1), none⟩, ⟨none, .mov (.v 2), none⟩, ⟨none, .mov (.v 3), none⟩, ⟨none, .mov (.v 4), none⟩, ⟨none, .bin false .sub (.r 4) (.c (.int .i64 1)), none⟩, ⟨none, .callm f_spec_l1Cur_grow [(.r 0), (.r 1), (.r 2), (.r 3), (.r 5)], none⟩])
  (.region false [] [⟨none, .mov (.v 0), none⟩, ⟨none, .mov (.v 1), none⟩, ⟨none, .mov (.v 2), none⟩, ⟨none, .mov (.v 3), none⟩, ⟨none, .mov (.v 4), none⟩, ⟨none, .bin false .sub (.r 4) (.c (.int .i64 1)), none⟩, ⟨none, .callm f_spec_l1Cur_grow [(.r 0), (.r 1), (.r 2), (.r 3), (.r 5)], none⟩])) (.seq (.region false [] [⟨none, .bin false .eql (.v 7) (.c (.int .i64 3)), none⟩, ⟨some 10, .mov (.r 0), none⟩])
  (.cond (.v 10) (.seq (.region false [] [⟨none, .mov (.v 1), none⟩, ⟨none, .ncheck (.r 0), none⟩, ⟨none, .faddr 0 (.r 1), none⟩, ⟨none, .load false 1 (.r 2), none⟩, ⟨none, .bin false .add (.r 3) (.c (.int .i64 4)), none⟩, ⟨none, .ncheck (.r 0), none⟩, ⟨none, .faddr 0 (.r 5), none⟩, ⟨none, .store 1 (.r 6) (.r 4), none⟩])
  (.seq (.region true [(18, 4), (20, 4)] [⟨none, .mov (.v 1), none⟩, ⟨none, .mov (.v 1), none⟩, ⟨none, .ncheck (.r 1), none⟩, ⟨none, .faddr 1 (.r 2), none⟩, ⟨none, .load false 1 (.r 3), none⟩, ⟨none, .mov (.v 2), none⟩, ⟨none, .bslice true t_int true 1 [(.r 5)], none⟩, ⟨none, .mov (.v 5), none⟩, ⟨none, .mov (.v 5), none⟩, ⟨none, .bin false .add (.r 8) (.c (.int .i64 1)), none⟩, ⟨none, .bslice true t_int true 1 [(.r 7), (.r 9)], none⟩, ⟨none, .build [(.nil true 1), (.nil true 1), (.nil true 1)] [(0, 1, (.r 6)), (1, 1, (.r 10))], none⟩, ⟨none, .mov (.v 5), none⟩, ⟨none, .bin false .add (.r 12) (.c (.int .i64 2)), none⟩, ⟨none, .mov (.v 5), none⟩, ⟨none, .bin false .add (.r 14) (.c (.int .i64 3)), none⟩, ⟨none, .bslice true t_int true 1 [(.r 13), (.r 15)], none⟩, ⟨none, .mov (.v 3), none⟩, ⟨none, .callm f_spec_l1Put [(.c (.nil true 1)), (.r 17)], none⟩, ⟨none, .build [(.nil true 1), (.nil true 1), (.nil true 1)] [(0, 1, (.r 16)), (1, 1, (.r 18))], none⟩, ⟨none, .bslice false t_impl_Trans false 3 [(.r 11), (.r 19)], none⟩, ⟨none, .append t_impl_Trans false 3 (.r 4) (.r 20), none⟩, ⟨none, .ncheck (.r 0), none⟩, ⟨none, .faddr 1 (.r 22), none⟩, ⟨none, .store 1 (.r 23) (.r 21), none⟩])
  (.seq (.region false [] [⟨none, .mov (.v 0), none⟩, ⟨none, .mov (.v 1), none⟩, ⟨none, .mov (.v 5), none⟩, ⟨none, .mov (.v 5), none⟩, ⟨none, .bin false .add (.r 3) (.c (.int .i64 2)), none⟩, ⟨none, .mov (.v 4), none⟩, ⟨none, .bin false .sub (.r 5) (.c (.int .i64 1)), none⟩, ⟨none, .callm f_spec_l1Cur_grow [(.r 0), (.r 1), (.r 2), (.r 4), (.r 6)], none⟩])
  (.region false [] [⟨none, .mov (.v 0), none⟩, ⟨none, .mov (.v 1), none⟩, ⟨none, .mov (.v 5), none⟩, ⟨none, .bin false .add (.r 2) (.c (.int .i64 1)), none⟩, ⟨none, .mov (.v 5), none⟩, ⟨none, .bin false .add (.r 4) (.c (.int .i64 3)), none⟩, ⟨none, .mov (.v 4), none⟩, ⟨none, .bin false .sub (.r 6) (.c (.int .i64 1)), none⟩, ⟨none, .callm f_spec_l1Cur_grow [(.r 0), (.r 1), (.r 3), (.r 5), (.r 7)], none⟩])))) (.seq (.region false [] [⟨none, .mov (.v 1), none⟩, ⟨none, .ncheck (.r 0), none⟩, ⟨none, .faddr 0 (.r 1), none⟩, ⟨none, .load false 1 (.r 2), none⟩, ⟨none, .bin false .add (.r 3) (.c (.int .i64 2)), none⟩, ⟨none, .ncheck (.r 0), none⟩, ⟨none, .faddr 0 (.r 5), none⟩, ⟨none, .store 1 (.r 6) (.r 4), none⟩])
  (.seq (.region false [] [⟨none, .mov (.v 1), none⟩, ⟨none, .mov (.v 1), none⟩, ⟨none, .ncheck (.r 1), none⟩, ⟨none, .faddr 1 (.r 2), none⟩, ⟨none, .load false 1 (.r 3), none⟩, ⟨none, .mov (.v 2), none⟩, ⟨none, .bslice false t_int true 1 [(.r 5)], none⟩, ⟨none, .mov (.v 5), none⟩, ⟨none, .bslice false t_int true 1 [(.r 7)], none⟩, ⟨none, .build [(.nil true 1), (.nil true 1), (.nil true 1)] [(0, 1, (.r 6)), (1, 1, (.r 8))], none⟩, ⟨none, .mov (.v 5), none⟩, ⟨none, .bin false .add (.r 10) (.c (.int .i64 1)), none⟩, ⟨none, .bslice false t_int true 1 [(.r 11)], none⟩, ⟨none, .mov (.v 3), none⟩, ⟨none, .bslice false t_int true 1 [(.r 13)], none⟩, ⟨none, .build [(.nil true 1), (.nil true 1), (.nil true 1)] [(0, 1, (.r 12)), (1, 1, (.r 14))], none⟩, ⟨none, .bslice false t_impl_Trans false 3 [(.r 9), (.r 15)], none⟩, ⟨none, .append t_impl_Trans false 3 (.r 4) (.r 16), none⟩, ⟨none, .ncheck (.r 0), none⟩, ⟨none, .faddr 1 (.r 18), none⟩, ⟨none, .store 1 (.r 19) (.r 17), none⟩])
  (.seq (.region false [] [⟨none, .mov (.v 0), none⟩, ⟨none, .mov (.v 1), none⟩, ⟨none, .mov (.v 5), none⟩, ⟨none, .mov (.v 5), none⟩, ⟨none, .bin false .add (.r 3) (.c (.int .i64 1)), none⟩, ⟨none, .mov (.v 4), none⟩, ⟨none, .bin false .sub (.r 5) (.c (.int .i64 1)), none⟩, ⟨none, .callm f_spec_l1Cur_grow [(.r 0), (.r 1), (.r 2), (.r 4), (.r 6)], none⟩])
  (.region false [] [⟨none, .mov (.v 0), none⟩, ⟨none, .mov (.v 1), none⟩, ⟨none, .mov (.v 5), none⟩, ⟨none, .bin false .add (.r 2) (.c (.int .i64 1)), none⟩, ⟨none, .mov (.v 5), none⟩, ⟨none, .mov (.v 4), none⟩, ⟨none, .bin false .sub (.r 5) (.c (.int .i64 1)), none⟩, ⟨none, .callm f_spec_l1Cur_grow [(.r 0), (.r 1), (.r 3), (.r 4), (.r 6)], none⟩])))))))))))))),
  []⟩
def ir_spec_l1Cur_someOf : IFun := ⟨[0, 1, 2, 3, 8, 9, 10, 20],
  (.seq (.region false [] [⟨some 4, .nilrow t_int true 1, none⟩])
  (.seq (.region false [] [⟨some 5, .nilrow t_int true 1, none⟩])
  (.seq (.seq (.region false [] [⟨none, .mov (.v 2), none⟩, ⟨none, .mov (.v 0), none⟩, ⟨none, .mov (.v 3), none⟩, ⟨none, .mov (.v 2), none⟩, ⟨none, .bin false .sub (.r 2) (.r 3), none⟩, ⟨none, .bin false .add (.r 4) (.c (.int .i64 1)), none⟩, ⟨none, .callm f_spec_l1Cur_pick [(.r 1), (.r 5)], none⟩, ⟨none, .bin false .add (.r 0) (.r 6), none⟩, ⟨some 6, .mov (.r 7), none⟩])
  (.block 0 (.loop [true, true, false, false, false, true, true, false] (.seq (.seq (.region false [] [⟨none, .mov (.v 6), none⟩, ⟨some 7, .bin false .gtr (.r 0) (.c (.int .i64 0)), none⟩])
  (.cond (.v 7) .skip (.exit 0)))
  (.seq (.block 1 (.region false [] [⟨none, .mov (.v 5), none⟩, ⟨none, .mov (.v 0), none⟩, ⟨none, .mov (.v 1), none⟩, ⟨none, .callm f_spec_l1Cur_pick [(.r 1), (.r 2)], none⟩, ⟨none, .callm f_spec_l1Put [(.r 0), (.r 3)], none⟩, ⟨some 5, .mov (.r 4), none⟩]))
  (.region false [] [⟨none, .mov (.v 6), none⟩, ⟨none, .bin false .sub (.r 0) (.c (.int .i64 1)), none⟩, ⟨some 6, .mov (.r 1), none⟩]))))))
  (.seq (.region false [] [⟨none, .mov (.v 5), none⟩, ⟨some 4, .mov (.r 0), none⟩])
  .ret)))),
  [.v 4]⟩
def ir_spec_l1Cur_among : IFun := ⟨[0, 1, 4],
  (.seq (.region false [] [⟨some 2, .mov (.c (.int .i64 0)), none⟩])
  (.seq (.region false [] [⟨none, .mov (.v 1), none⟩, ⟨none, .mov (.v 0), none⟩, ⟨none, .mov (.v 1), none⟩, ⟨none, .len false (.r 2), none⟩, ⟨none, .callm f_spec_l1Cur_pick [(.r 1), (.r 3)], none⟩, ⟨none, .iaddr 1 (.r 0) (.r 4), none⟩, ⟨none, .load false 1 (.r 5), none⟩, ⟨some 2, .mov (.r 6), none⟩])
  .ret)),
  [.v 2]⟩
def ir_spec_l1Cur_flow : IFun := ⟨[0, 1, 4, 5, 6, 7, 23, 24, 46, 67, 88, 90, 103],
  (.seq (.region false [] [⟨some 2, .alloc t_impl_Flow [(.int .i64 0), (.nil false 3), (.int .i64 0), (.int .i64 0)], none⟩])
  (.seq (.region false [] [⟨none, .build [(.int .i64 0), (.nil false 3)] [(0, 1, (.c (.int .i64 2)))], none⟩, ⟨some 3, .alloc t_impl_Net [(.int .i64 0), (.nil false 3)], none⟩, ⟨none, .store 2 (.v 3) (.r 0), none⟩])
  (.seq (.region false [] [⟨none, .mov (.v 0), none⟩, ⟨none, .mov (.v 0), none⟩, ⟨none, .callm f_spec_l1Cur_pick [(.r 1), (.c (.int .i64 3))], none⟩, ⟨none, .bin false .add (.c (.int .i64 1)) (.r 2), none⟩, ⟨none, .callm f_spec_l1Cur_grow [(.r 0), (.v 3), (.c (.int .i64 0)), (.c (.int .i64 1)), (.r 3)], none⟩])
  (.seq (.region false [] [⟨none, .load true 2 (.v 3), none⟩, ⟨none, .build [(.int .i64 0), (.nil false 3), (.int .i64 0), (.int .i64 0)] [(0, 2, (.r 0)), (2, 1, (.c (.int .i64 0))), (3, 1, (.c (.int .i64 1)))], none⟩, ⟨some 4, .alloc t_impl_Flow [(.int .i64 0), (.nil false 3), (.int .i64 0), (.int .i64 0)], none⟩, ⟨none, .store 4 (.v 4) (.r 1), none⟩])
  (.seq (.region false [] [⟨none, .mov (.v 0), none⟩, ⟨none, .faddr 0 (.v 4), none⟩, ⟨none, .faddr 1 (.r 1), none⟩, ⟨none, .load false 1 (.r 2), none⟩, ⟨none, .len false (.r 3), none⟩, ⟨none, .callm f_spec_l1Cur_pick [(.r 0), (.r 4)], none⟩, ⟨some 5, .mov (.r 5), none⟩])
  (.seq (.seq (.region false [] [⟨none, .mov (.v 0), none⟩, ⟨some 6, .callm f_spec_l1Cur_pick [(.r 0), (.c (.int .i64 9))], none⟩])
  (.block 0 (.seq (.region false [] [⟨none, .bin false .eql (.v 6) (.c (.int .i64 0)), none⟩, ⟨some 7, .mov (.r 0), none⟩])
  (.cond (.v 7) (.region true [(11, 2), (11, 10), (13, 2), (16, 2)] [⟨none, .faddr 0 (.v 4), none⟩, ⟨none, .faddr 1 (.r 0), none⟩, ⟨none, .load false 1 (.r 1), none⟩, ⟨none, .mov (.v 0), none⟩, ⟨none, .faddr 0 (.v 4), none⟩, ⟨none, .faddr 0 (.r 4), none⟩, ⟨none, .load false 1 (.r 5), none⟩, ⟨none, .mov (.v 0), none⟩, ⟨none, .faddr 0 (.v 4), none⟩, ⟨none, .faddr 0 (.r 8), none⟩, ⟨none, .load false 1 (.r 9), none⟩, ⟨none, .callm f_spec_l1Cur_pick [(.r 3), (.r 6)], none⟩, ⟨none, .bslice true t_int true 1 [(.r 11)], none⟩, ⟨none, .callm f_spec_l1Cur_pick [(.r 7), (.r 10)], none⟩, ⟨none, .bslice true t_int true 1 [(.r 13)], none⟩, ⟨none, .build [(.nil true 1), (.nil true 1), (.nil true 1)] [(0, 1, (.r 12)), (1, 1, (.r 14))], none⟩, ⟨none, .bslice false t_impl_Trans false 3 [(.r 15)], none⟩, ⟨none, .append t_impl_Trans false 3 (.r 2) (.r 16), none⟩, ⟨none, .faddr 0 (.v 4), none⟩, ⟨none, .faddr 1 (.r 18), none⟩, ⟨none, .store 1 (.r 19) (.r 17), none⟩]) (.seq (.region false [] [⟨none, .bin false .eql (.v 6) (.c (.int .i64 1)), none⟩, ⟨some 8, .mov (.r 0), none⟩])
  (.cond (.v 8) (.region true [(15, 2), (15, 6), (15, 10), (16, 2)] [⟨none, .faddr 0 (.v 4), none⟩, ⟨none, .faddr 1 (.r 0), none⟩, ⟨none, .load false 1 (.r 1), none⟩, ⟨none, .mov (.v 5), none⟩, ⟨none, .faddr 0 (.v 4), none⟩, ⟨none, .faddr 1 (.r 4), none⟩, ⟨none, .load false 1 (.r 5), none⟩, ⟨none, .mov (.v 5), none⟩, ⟨none, .iaddr 3 (.r 6) (.r 7), none⟩, ⟨none, .faddr 1 (.r 8), none⟩, ⟨none, .load false 1 (.r 9), none⟩, ⟨none, .mov (.v 0), none⟩, ⟨none, .faddr 0 (.v 4), none⟩, ⟨none, .faddr 0 (.r 12), none⟩, ⟨none, .load false 1 (.r 13), none⟩, ⟨none, .callm f_spec_l1Cur_pick [(.r 11), (.r 14)], none⟩, ⟨none, .callm f_spec_l1Put [(.r 10), (.r 15)], none⟩, ⟨none, .iaddr 3 (.r 2) (.r 3), none⟩, ⟨none, .faddr 1 (.r 17), none⟩, ⟨none, .store 1 (.r 18) (.r 16), none⟩]) (.seq (.region false [] [⟨none, .bin false .eql (.v 6) (.c (.int .i64 2)), none⟩, ⟨some 9, .mov (.r 0), none⟩])
  (.cond (.v 9) (.region true [(15, 2), (15, 6), (15, 10), (16, 2)] [⟨none, .faddr 0 (.v 4), none⟩, ⟨none, .faddr 1 (.r 0), none⟩, ⟨none, .load false 1 (.r 1), none⟩, ⟨none, .mov (.v 5), none⟩, ⟨none, .faddr 0 (.v 4), none⟩, ⟨none, .faddr 1 (.r 4), none⟩, ⟨none, .load false 1 (.r 5), none⟩, ⟨none, .mov (.v 5), none⟩, ⟨none, .iaddr 3 (.r 6) (.r 7), none⟩, ⟨none, .faddr 0 (.r 8), none⟩, ⟨none, .load false 1 (.r 9), none⟩, ⟨none, .mov (.v 0), none⟩, ⟨none, .faddr 0 (.v 4), none⟩, ⟨none, .faddr 0 (.r 12), none⟩, ⟨none, .load false 1 (.r 13), none⟩, ⟨none, .callm f_spec_l1Cur_pick [(.r 11), (.r 14)], none⟩, ⟨none, .callm f_spec_l1Put [(.r 10), (.r 15)], none⟩, ⟨none, .iaddr 3 (.r 2) (.r 3), none⟩, ⟨none, .faddr 0 (.r 17), none⟩, ⟨none, .store 1 (.r 18) (.r 16), none⟩]) (.seq (.region false [] [⟨none, .bin false .eql (.v 6) (.c (.int .i64 3)), none⟩, ⟨some 10, .mov (.r 0), none⟩])
  (.cond (.v 10) (.seq (.region false [] [⟨some 11, .mov (.v 1), none⟩])
  (.cond (.v 11) (.region true [(8, 2)] [⟨none, .faddr 0 (.v 4), none⟩, ⟨none, .faddr 1 (.r 0), none⟩, ⟨none, .load false 1 (.r 1), none⟩, ⟨none, .mov (.v 5), none⟩, ⟨none, .mov (.v 0), none⟩, ⟨none, .faddr 0 (.v 4), none⟩, ⟨none, .faddr 0 (.r 5), none⟩, ⟨none, .load false 1 (.r 6), none⟩, ⟨none, .callm f_spec_l1Cur_someOf [(.r 4), (.r 7), (.c (.int .i64 1)), (.c (.int .i64 2))], none⟩, ⟨none, .iaddr 3 (.r 2) (.r 3), none⟩, ⟨none, .faddr 2 (.r 9), none⟩, ⟨none, .store 1 (.r 10) (.r 8), none⟩]) .skip)) .skip))))))))))
  (.seq (.seq (.region false [] [⟨none, .mov (.v 0), none⟩, ⟨some 12, .callm f_spec_l1Cur_one [(.r 0), (.c (.int .i64 30))], none⟩])
  (.cond (.v 12) (.region false [] [⟨none, .mov (.v 0), none⟩, ⟨none, .bslice false t_int true 1 [(.c (.int .i64 0)), (.c (.int .i64 (-1))), (.c (.int .i64 2)), (.c (.int .i64 17))], none⟩, ⟨none, .callm f_spec_l1Cur_among [(.r 0), (.r 1)], none⟩, ⟨none, .faddr 3 (.v 4), none⟩, ⟨none, .store 1 (.r 3) (.r 2), none⟩]) .skip))
  (.seq (.region false [] [⟨none, .load true 4 (.v 4), none⟩, ⟨none, .store 4 (.v 2) (.r 0), none⟩])
  .ret)))))))),
  [.cell true 4 2]⟩
def ir_spec_l1In : IFun := ⟨[0, 1, 2, 6],
  (.seq (.region false [] [⟨some 3, .mov (.c (.bool false)), none⟩])
  (.seq (.region false [] [⟨none, .mov (.v 0), none⟩, ⟨none, .mov (.v 1), none⟩, ⟨none, .bin false .geq (.r 0) (.r 1), none⟩, ⟨none, .mov (.r 2), none⟩, ⟨none, .mov (.v 0), some (3, true)⟩, ⟨none, .mov (.v 2), some (3, true)⟩, ⟨none, .bin false .leq (.r 4) (.r 5), some (3, true)⟩, ⟨none, .pick (.r 3) (.r 6) (.c (.bool false)), none⟩, ⟨some 3, .mov (.r 7), none⟩])
  .ret)),
  [.v 3]⟩
def ir_spec_l1Places : IFun := ⟨[0, 2],
  (.seq (.region false [] [⟨some 1, .mov (.c (.bool false)), none⟩])
  (.seq (.region false [] [⟨none, .mov (.v 0), none⟩, ⟨none, .call false f_spec_l1In [(.r 0), (.c (.int .i64 1)), (.c (.int .i64 16))], none⟩, ⟨some 1, .mov (.r 1), none⟩])
  .ret)),
  [.v 1]⟩
def ir_spec_l1Rising : IFun := ⟨[0, 1, 2, 6, 7, 8, 9, 10, 11, 12, 33],
  (.seq (.region false [] [⟨some 3, .mov (.c (.bool false)), none⟩])
  (.seq (.seq (.region false [] [⟨some 6, .mov (.v 0), none⟩, ⟨some 7, .len false (.v 6), none⟩, ⟨some 8, .mov (.c (.int .i64 0)), none⟩])
  (.block 0 (.loop [true, true, true, false, false, false, true, true, true, false, false] (.seq (.region false [] [⟨some 9, .bin false .lss (.v 8) (.v 7), none⟩])
  (.seq (.cond (.v 9) .skip (.exit 0))
  (.seq (.block 1 (.seq (.region false [] [⟨none, .mov (.v 8), none⟩, ⟨none, .iaddr 1 (.v 6) (.v 8), none⟩, ⟨none, .load false 1 (.r 1), none⟩, ⟨some 4, .mov (.r 0), none⟩, ⟨some 5, .mov (.r 2), none⟩])
  (.seq (.region false [] [⟨none, .mov (.v 5), none⟩, ⟨none, .mov (.v 1), none⟩, ⟨none, .mov (.v 2), none⟩, ⟨none, .call false f_spec_l1In [(.r 0), (.r 1), (.r 2)], none⟩, ⟨none, .not (.r 3), none⟩, ⟨none, .mov (.r 4), none⟩, ⟨none, .mov (.v 4), some (5, false)⟩, ⟨none, .bin false .gtr (.r 6) (.c (.int .i64 0)), some (5, false)⟩, ⟨none, .mov (.r 7), some (5, false)⟩, ⟨none, .mov (.v 0), some (8, true)⟩, ⟨none, .mov (.v 4), some (8, true)⟩, ⟨none, .bin false .sub (.r 10) (.c (.int .i64 1)), some (8, true)⟩, ⟨none, .iaddr 1 (.r 9) (.r 11), some (8, true)⟩, ⟨none, .load false 1 (.r 12), some (8, true)⟩, ⟨none, .mov (.v 5), some (8, true)⟩, ⟨none, .bin false .geq (.r 13) (.r 14), some (8, true)⟩, ⟨none, .pick (.r 8) (.r 15) (.c (.bool false)), some (5, false)⟩, ⟨some 10, .pick (.r 5) (.c (.bool true)) (.r 16), none⟩])
  (.cond (.v 10) (.seq (.region false [] [⟨some 3, .mov (.c (.bool false)), none⟩])
  .ret) .skip))))
  (.region false [] [⟨none, .bin false .add (.v 8) (.c (.int .i64 1)), none⟩, ⟨some 8, .mov (.r 0), none⟩])))))))
  (.seq (.region false [] [⟨some 3, .mov (.c (.bool true)), none⟩])
  .ret))),
  [.v 3]⟩
def ir_spec_GoodNet : IFun := ⟨[0, 1, 2, 4, 14, 16, 17, 18, 19, 52],
  (.seq (.region false [] [⟨some 1, .box t_impl_Net 2 (.v 0), none⟩, ⟨some 2, .mov (.c (.bool false)), none⟩])
  (.seq (.seq (.region false [] [⟨none, .faddr 0 (.v 1), none⟩, ⟨none, .load false 1 (.r 0), none⟩, ⟨none, .call false f_spec_l1Places [(.r 1)], none⟩, ⟨none, .not (.r 2), none⟩, ⟨none, .mov (.r 3), none⟩, ⟨none, .faddr 1 (.v 1), some (4, false)⟩, ⟨none, .load false 1 (.r 5), some (4, false)⟩, ⟨none, .len false (.r 6), some (4, false)⟩, ⟨none, .bin false .gtr (.r 7) (.c (.int .i64 24)), some (4, false)⟩, ⟨some 4, .pick (.r 4) (.c (.bool true)) (.r 8), none⟩])
  (.cond (.v 4) (.seq (.region false [] [⟨some 2, .mov (.c (.bool false)), none⟩])
  .ret) .skip))
  (.seq (.seq (.region false [] [⟨none, .faddr 1 (.v 1), none⟩, ⟨some 5, .load false 1 (.r 0), none⟩, ⟨some 6, .len false (.v 5), none⟩, ⟨some 7, .mov (.c (.int .i64 0)), none⟩])
  (.block 0 (.loop [false, true, false, false, false, true, true, true, false, false] (.seq (.region false [] [⟨some 8, .bin false .lss (.v 7) (.v 6), none⟩])
  (.seq (.cond (.v 8) .skip (.exit 0))
  (.seq (.block 1 (.seq (.region false [] [⟨none, .iaddr 3 (.v 5) (.v 7), none⟩, ⟨none, .load true 3 (.r 0), none⟩, ⟨some 3, .alloc t_impl_Trans [(.nil true 1), (.nil true 1), (.nil true 1)], none⟩, ⟨none, .store 3 (.v 3) (.r 1), none⟩])
  (.seq (.region false [] [⟨none, .faddr 0 (.v 3), none⟩, ⟨none, .load false 1 (.r 0), none⟩, ⟨none, .len false (.r 1), none⟩, ⟨none, .bin false .eql (.r 2) (.c (.int .i64 0)), none⟩, ⟨none, .mov (.r 3), none⟩, ⟨none, .faddr 0 (.v 3), some (4, false)⟩, ⟨none, .load false 1 (.r 5), some (4, false)⟩, ⟨none, .faddr 0 (.v 1), some (4, false)⟩, ⟨none, .load false 1 (.r 7), some (4, false)⟩, ⟨none, .bin false .sub (.r 8) (.c (.int .i64 1)), some (4, false)⟩, ⟨none, .call false f_spec_l1Rising [(.r 6), (.c (.int .i64 0)), (.r 9)], some (4, false)⟩, ⟨none, .not (.r 10), some (4, false)⟩, ⟨none, .pick (.r 4) (.c (.bool true)) (.r 11), none⟩, ⟨none, .mov (.r 12), none⟩, ⟨none, .faddr 1 (.v 3), some (13, false)⟩, ⟨none, .load false 1 (.r 14), some (13, false)⟩, ⟨none, .faddr 0 (.v 1), some (13, false)⟩, ⟨none, .load false 1 (.r 16), some (13, false)⟩, ⟨none, .bin false .sub (.r 17) (.c (.int .i64 1)), some (13, false)⟩, ⟨none, .call false f_spec_l1Rising [(.r 15), (.c (.int .i64 0)), (.r 18)], some (13, false)⟩, ⟨none, .not (.r 19), some (13, false)⟩, ⟨none, .pick (.r 13) (.c (.bool true)) (.r 20), none⟩, ⟨none, .mov (.r 21), none⟩, ⟨none, .faddr 2 (.v 3), some (22, false)⟩, ⟨none, .load false 1 (.r 23), some (22, false)⟩, ⟨none, .faddr 0 (.v 1), some (22, false)⟩, ⟨none, .load false 1 (.r 25), some (22, false)⟩, ⟨none, .bin false .sub (.r 26) (.c (.int .i64 1)), some (22, false)⟩, ⟨none, .call false f_spec_l1Rising [(.r 24), (.c (.int .i64 0)), (.r 27)], some (22, false)⟩, ⟨none, .not (.r 28), some (22, false)⟩, ⟨some 9, .pick (.r 22) (.c (.bool true)) (.r 29), none⟩])
  (.cond (.v 9) (.seq (.region false [] [⟨some 2, .mov (.c (.bool false)), none⟩])
  .ret) .skip))))
  (.region false [] [⟨none, .bin false .add (.v 7) (.c (.int .i64 1)), none⟩, ⟨some 7, .mov (.r 0), none⟩])))))))
  (.seq (.region false [] [⟨some 2, .mov (.c (.bool true)), none⟩])
  .ret)))),
  [.v 2]⟩
def ir_spec_l3Forward : IFun := ⟨[0, 1, 2, 4, 5, 6, 7, 8, 9, 10, 11, 13, 15, 26, 28, 29, 30, 31, 36, 37, 38, 39, 57, 62, 63, 64, 65],
  (.seq (.region false [] [⟨some 2, .box t_impl_Net 2 (.v 0), none⟩, ⟨some 3, .nilrow t_bool true 1, none⟩, ⟨some 4, .nilrow t_bool true 1, none⟩])
  (.seq (.region false [] [⟨none, .faddr 0 (.v 2), none⟩, ⟨none, .load false 1 (.r 0), none⟩, ⟨none, .mk t_bool true 1 (.bool false) (.r 1), none⟩, ⟨some 5, .mov (.r 2), none⟩])
  (.seq (.region false [] [⟨none, .faddr 1 (.v 2), none⟩, ⟨none, .load false 1 (.r 0), none⟩, ⟨none, .len false (.r 1), none⟩, ⟨none, .mk t_bool true 1 (.bool false) (.r 2), none⟩, ⟨some 6, .mov (.r 3), none⟩])
  (.seq (.region false [] [⟨none, .mov (.v 5), none⟩, ⟨none, .mov (.v 1), none⟩, ⟨none, .iaddr 1 (.r 0) (.r 1), none⟩, ⟨none, .store 1 (.r 2) (.c (.bool true)), none⟩])
  (.seq (.seq (.region false [] [⟨some 7, .mov (.c (.bool true)), none⟩])
  (.block 0 (.loop [false, false, true, false, false, true, true, true, false, false, false, false, false, false, false, false, false, false, false, false, false, false, false, false, false, false, false] (.seq (.seq (.region false [] [⟨some 13, .mov (.v 7), none⟩])
  (.cond (.v 13) .skip (.exit 0)))
  (.block 1 (.seq (.region false [] [⟨some 7, .mov (.c (.bool false)), none⟩])
  (.seq (.region false [] [⟨none, .faddr 1 (.v 2), none⟩, ⟨some 14, .load false 1 (.r 0), none⟩, ⟨some 15, .len false (.v 14), none⟩, ⟨some 16, .mov (.c (.int .i64 0)), none⟩])
  (.block 2 (.loop [false, false, true, false, false, true, true, true, false, false, false, false, false, false, true, true, true, false, false, false, false, false, false, false, false, false, false] (.seq (.region false [] [⟨some 17, .bin false .lss (.v 16) (.v 15), none⟩])
  (.seq (.cond (.v 17) .skip (.exit 2))
  (.seq (.block 3 (.seq (.region false [] [⟨none, .mov (.v 16), none⟩, ⟨none, .iaddr 3 (.v 14) (.v 16), none⟩, ⟨none, .load true 3 (.r 1), none⟩, ⟨some 9, .alloc t_impl_Trans [(.nil true 1), (.nil true 1), (.nil true 1)], none⟩, ⟨some 8, .mov (.r 0), none⟩, ⟨none, .store 3 (.v 9) (.r 2), none⟩])
  (.seq (.region false [] [⟨some 10, .mov (.c (.bool false)), none⟩])
  (.seq (.seq (.region false [] [⟨none, .faddr 0 (.v 9), none⟩, ⟨some 18, .load false 1 (.r 0), none⟩, ⟨some 19, .len false (.v 18), none⟩, ⟨some 20, .mov (.c (.int .i64 0)), none⟩])
  (.block 4 (.loop [false, false, true, false, false, true, true, true, true, true, true, false, false, false, true, true, true, false, true, true, true, false, false, false, false, false, false] (.seq (.region false [] [⟨some 21, .bin false .lss (.v 20) (.v 19), none⟩])
  (.seq (.cond (.v 21) .skip (.exit 4))
  (.seq (.block 5 (.seq (.region false [] [⟨none, .iaddr 1 (.v 18) (.v 20), none⟩, ⟨none, .load false 1 (.r 0), none⟩, ⟨some 11, .mov (.r 1), none⟩])
  (.region false [] [⟨none, .mov (.v 10), none⟩, ⟨none, .mov (.r 0), none⟩, ⟨none, .mov (.v 5), some (1, false)⟩, ⟨none, .mov (.v 11), some (1, false)⟩, ⟨none, .iaddr 1 (.r 2) (.r 3), some (1, false)⟩, ⟨none, .load false 1 (.r 4), some (1, false)⟩, ⟨none, .pick (.r 1) (.c (.bool true)) (.r 5), none⟩, ⟨some 10, .mov (.r 6), none⟩])))
  (.region false [] [⟨none, .bin false .add (.v 20) (.c (.int .i64 1)), none⟩, ⟨some 20, .mov (.r 0), none⟩])))))))
  (.seq (.seq (.region false [] [⟨none, .mov (.v 10), none⟩, ⟨none, .not (.r 0), none⟩, ⟨none, .mov (.r 1), none⟩, ⟨none, .mov (.v 6), some (2, false)⟩, ⟨none, .mov (.v 8), some (2, false)⟩, ⟨none, .iaddr 1 (.r 3) (.r 4), some (2, false)⟩, ⟨none, .load false 1 (.r 5), some (2, false)⟩, ⟨some 22, .pick (.r 2) (.c (.bool true)) (.r 6), none⟩])
  (.cond (.v 22) (.exit 3) .skip))
  (.seq (.region false [] [⟨none, .mov (.v 6), none⟩, ⟨none, .mov (.v 8), none⟩, ⟨none, .iaddr 1 (.r 0) (.r 1), none⟩, ⟨none, .store 1 (.r 2) (.c (.bool true)), none⟩])
  (.seq (.region false [] [⟨some 7, .mov (.c (.bool true)), none⟩])
  (.seq (.region false [] [⟨none, .faddr 1 (.v 9), none⟩, ⟨some 23, .load false 1 (.r 0), none⟩, ⟨some 24, .len false (.v 23), none⟩, ⟨some 25, .mov (.c (.int .i64 0)), none⟩])
  (.block 6 (.loop [false, false, true, false, false, true, true, true, false, false, false, false, false, false, true, true, true, false, false, false, false, false, false, true, true, true, false] (.seq (.region false [] [⟨some 26, .bin false .lss (.v 25) (.v 24), none⟩])
  (.seq (.cond (.v 26) .skip (.exit 6))
  (.seq (.block 7 (.seq (.region false [] [⟨none, .iaddr 1 (.v 23) (.v 25), none⟩, ⟨none, .load false 1 (.r 0), none⟩, ⟨some 12, .mov (.r 1), none⟩])
  (.region false [] [⟨none, .mov (.v 5), none⟩, ⟨none, .mov (.v 12), none⟩, ⟨none, .iaddr 1 (.r 0) (.r 1), none⟩, ⟨none, .store 1 (.r 2) (.c (.bool true)), none⟩])))
  (.region false [] [⟨none, .bin false .add (.v 25) (.c (.int .i64 1)), none⟩, ⟨some 25, .mov (.r 0), none⟩]))))))))))))))
  (.region false [] [⟨none, .bin false .add (.v 16) (.c (.int .i64 1)), none⟩, ⟨some 16, .mov (.r 0), none⟩])))))))))))))
  (.seq (.region false [] [⟨none, .mov (.v 5), none⟩, ⟨none, .mov (.v 6), none⟩, ⟨some 3, .mov (.r 0), none⟩, ⟨some 4, .mov (.r 1), none⟩])
  .ret)))))),
  [.v 3, .v 4]⟩
def ir_spec_l3Back : IFun := ⟨[0, 1, 2, 4, 5, 6, 7, 8, 9, 10, 11, 13, 15, 26, 28, 29, 30, 31, 36, 37, 38, 39, 57, 62, 63, 64, 65],
  (.seq (.region false [] [⟨some 2, .box t_impl_Net 2 (.v 0), none⟩, ⟨some 3, .nilrow t_bool true 1, none⟩, ⟨some 4, .nilrow t_bool true 1, none⟩])
  (.seq (.region false [] [⟨none, .faddr 0 (.v 2), none⟩, ⟨none, .load false 1 (.r 0), none⟩, ⟨none, .mk t_bool true 1 (.bool false) (.r 1), none⟩, ⟨some 5, .mov (.r 2), none⟩])
  (.seq (.region false [] [⟨none, .faddr 1 (.v 2), none⟩, ⟨none, .load false 1 (.r 0), none⟩, ⟨none, .len false (.r 1), none⟩, ⟨none, .mk t_bool true 1 (.bool false) (.r 2), none⟩, ⟨some 6, .mov (.r 3), none⟩])
  (.seq (.region false [] [⟨none, .mov (.v 5), none⟩, ⟨none, .mov (.v 1), none⟩, ⟨none, .iaddr 1 (.r 0) (.r 1), none⟩, ⟨none, .store 1 (.r 2) (.c (.bool true)), none⟩])
  (.seq (.seq (.region false [] [⟨some 7, .mov (.c (.bool true)), none⟩])
  (.block 0 (.loop [false, false, true, false, false, true, true, true, false, false, false, false, false, false, false, false, false, false, false, false, false, false, false, false, false, false, false] (.seq (.seq (.region false [] [⟨some 13, .mov (.v 7), none⟩])
  (.cond (.v 13) .skip (.exit 0)))
  (.block 1 (.seq (.region false [] [⟨some 7, .mov (.c (.bool false)), none⟩])
  (.seq (.region false [] [⟨none, .faddr 1 (.v 2), none⟩, ⟨some 14, .load false 1 (.r 0), none⟩, ⟨some 15, .len false (.v 14), none⟩, ⟨some 16, .mov (.c (.int .i64 0)), none⟩])
  (.block 2 (.loop [false, false, true, false, false, true, true, true, false, false, false, false, false, false, true, true, true, false, false, false, false, false, false, false, false, false, false] (.seq (.region false [] [⟨some 17, .bin false .lss (.v 16) (.v 15), none⟩])
  (.seq (.cond (.v 17) .skip (.exit 2))
  (.seq (.block 3 (.seq (.region false [] [⟨none, .mov (.v 16), none⟩, ⟨none, .iaddr 3 (.v 14) (.v 16), none⟩, ⟨none, .load true 3 (.r 1), none⟩, ⟨some 9, .alloc t_impl_Trans [(.nil true 1), (.nil true 1), (.nil true 1)], none⟩, ⟨some 8, .mov (.r 0), none⟩, ⟨none, .store 3 (.v 9) (.r 2), none⟩])
  (.seq (.region false [] [⟨some 10, .mov (.c (.bool false)), none⟩])
  (.seq (.seq (.region false [] [⟨none, .faddr 1 (.v 9), none⟩, ⟨some 18, .load false 1 (.r 0), none⟩, ⟨some 19, .len false (.v 18), none⟩, ⟨some 20, .mov (.c (.int .i64 0)), none⟩])
  (.block 4 (.loop [false, false, true, false, false, true, true, true, true, true, true, false, false, false, true, true, true, false, true, true, true, false, false, false, false, false, false] (.seq (.region false [] [⟨some 21, .bin false .lss (.v 20) (.v 19), none⟩])
  (.seq (.cond (.v 21) .skip (.exit 4))
  (.seq (.block 5 (.seq (.region false [] [⟨none, .iaddr 1 (.v 18) (.v 20), none⟩, ⟨none, .load false 1 (.r 0), none⟩, ⟨some 11, .mov (.r 1), none⟩])
  (.region false [] [⟨none, .mov (.v 10), none⟩, ⟨none, .mov (.r 0), none⟩, ⟨none, .mov (.v 5), some (1, false)⟩, ⟨none, .mov (.v 11), some (1, false)⟩, ⟨none, .iaddr 1 (.r 2) (.r 3), some (1, false)⟩, ⟨none, .load false 1 (.r 4), some (1, false)⟩, ⟨none, .pick (.r 1) (.c (.bool true)) (.r 5), none⟩, ⟨some 10, .mov (.r 6), none⟩])))
  (.region false [] [⟨none, .bin false .add (.v 20) (.c (.int .i64 1)), none⟩, ⟨some 20, .mov (.r 0), none⟩])))))))
  (.seq (.seq (.region false [] [⟨none, .mov (.v 10), none⟩, ⟨none, .not (.r 0), none⟩, ⟨none, .mov (.r 1), none⟩, ⟨none, .mov (.v 6), some (2, false)⟩, ⟨none, .mov (.v 8), some (2, false)⟩, ⟨none, .iaddr 1 (.r 3) (.r 4), some (2, false)⟩, ⟨none, .load false 1 (.r 5), some (2, false)⟩, ⟨some 22, .pick (.r 2) (.c (.bool true)) (.r 6), none⟩])
  (.cond (.v 22) (.exit 3) .skip))
  (.seq (.region false [] [⟨none, .mov (.v 6), none⟩, ⟨none, .mov (.v 8), none⟩, ⟨none, .iaddr 1 (.r 0) (.r 1), none⟩, ⟨none, .store 1 (.r 2) (.c (.bool true)), none⟩])
  (.seq (.region false [] [⟨some 7, .mov (.c (.bool true)), none⟩])
  (.seq (.region false [] [⟨none, .faddr 0 (.v 9), none⟩, ⟨some 23, .load false 1 (.r 0), none⟩, ⟨some 24, .len false (.v 23), none⟩, ⟨some 25, .mov (.c (.int .i64 0)), none⟩])
  (.block 6 (.loop [false, false, true, false, false, true, true, true, false, false, false, false, false, false, true, true, true, false, false, false, false, false, false, true, true, true, false] (.seq (.region false [] [⟨some 26, .bin false .lss (.v 25) (.v 24), none⟩])
  (.seq (.cond (.v 26) .skip (.exit 6))
  (.seq (.block 7 (.seq (.region false [] [⟨none, .iaddr 1 (.v 23) (.v 25), none⟩, ⟨none, .load false 1 (.r 0), none⟩, ⟨some 12, .mov (.r 1), none⟩])
  (.region false [] [⟨none, .mov (.v 5), none⟩, ⟨none, .mov (.v 12), none⟩, ⟨none, .iaddr 1 (.r 0) (.r 1), none⟩, ⟨none, .store 1 (.r 2) (.c (.bool true)), none⟩])))
  (.region false [] [⟨none, .bin false .add (.v 25) (.c (.int .i64 1)), none⟩, ⟨some 25, .mov (.r 0), none⟩]))))))))))))))
  (.region false [] [⟨none, .bin false .add (.v 16) (.c (.int .i64 1)), none⟩, ⟨some 16, .mov (.r 0), none⟩])))))))))))))
  (.seq (.region false [] [⟨none, .mov (.v 5), none⟩, ⟨none, .mov (.v 6), none⟩, ⟨some 3, .mov (.r 0), none⟩, ⟨some 4, .mov (.r 1), none⟩])
  .ret)))))),
  [.v 3, .v 4]⟩
def ir_spec_l3Both : IFun := ⟨[0, 1, 4, 5, 6, 8, 9, 10, 21],
  (.seq (.region false [] [⟨some 2, .nilrow t_int true 1, none⟩])
  (.seq (.region false [] [⟨some 3, .nilrow t_int true 1, none⟩])
  (.seq (.seq (.region false [] [⟨none, .mov (.v 0), none⟩, ⟨some 5, .len false (.r 0), none⟩, ⟨some 6, .mov (.c (.int .i64 0)), none⟩])
  (.block 0 (.loop [true, true, false, true, false, true, true, false, false] (.seq (.region false [] [⟨some 7, .bin false .lss (.v 6) (.v 5), none⟩])
  (.seq (.cond (.v 7) .skip (.exit 0))
  (.seq (.block 1 (.seq (.region false [] [⟨none, .mov (.v 6), none⟩, ⟨some 4, .mov (.r 0), none⟩])
  (.seq (.region false [] [⟨none, .mov (.v 0), none⟩, ⟨none, .mov (.v 4), none⟩, ⟨none, .iaddr 1 (.r 0) (.r 1), none⟩, ⟨none, .load false 1 (.r 2), none⟩, ⟨none, .mov (.r 3), none⟩, ⟨none, .mov (.v 1), some (4, true)⟩, ⟨none, .mov (.v 4), some (4, true)⟩, ⟨none, .iaddr 1 (.r 5) (.r 6), some (4, true)⟩, ⟨none, .load false 1 (.r 7), some (4, true)⟩, ⟨some 8, .pick (.r 4) (.r 8) (.c (.bool false)), none⟩])
  (.cond (.v 8) (.region false [] [⟨none, .mov (.v 3), none⟩, ⟨none, .mov (.v 4), none⟩, ⟨none, .bslice false t_int true 1 [(.r 1)], none⟩, ⟨none, .append t_int true 1 (.r 0) (.r 2), none⟩, ⟨some 3, .mov (.r 3), none⟩]) .skip))))
  (.region false [] [⟨none, .bin false .add (.v 6) (.c (.int .i64 1)), none⟩, ⟨some 6, .mov (.r 0), none⟩])))))))
  (.seq (.region false [] [⟨none, .mov (.v 3), none⟩, ⟨some 2, .mov (.r 0), none⟩])
  .ret)))),
  [.v 2]⟩
def ir_spec_OnWay : IFun := ⟨[0, 1, 2, 3, 6, 7, 8, 9, 10, 11, 12, 31],
  (.seq (.region false [] [⟨some 3, .box t_impl_Net 2 (.v 0), none⟩, ⟨some 4, .nilrow t_int true 1, none⟩, ⟨some 5, .nilrow t_int true 1, none⟩, ⟨some 6, .mov (.c (.bool false)), none⟩])
  (.seq (.seq (.region false [] [⟨none, .load true 2 (.v 3), none⟩, ⟨none, .call false f_spec_GoodNet [(.r 0)], none⟩, ⟨none, .not (.r 1), none⟩, ⟨none, .mov (.r 2), none⟩, ⟨none, .mov (.v 1), some (3, false)⟩, ⟨none, .faddr 0 (.v 3), some (3, false)⟩, ⟨none, .load false 1 (.r 5), some (3, false)⟩, ⟨none, .bin false .sub (.r 6) (.c (.int .i64 1)), some (3, false)⟩, ⟨none, .call false f_spec_l1In [(.r 4), (.c (.int .i64 0)), (.r 7)], some (3, false)⟩, ⟨none, .not (.r 8), some (3, false)⟩, ⟨none, .pick (.r 3) (.c (.bool true)) (.r 9), none⟩, ⟨none, .mov (.r 10), none⟩, ⟨none, .mov (.v 2), some (11, false)⟩, ⟨none, .faddr 0 (.v 3), some (11, false)⟩, ⟨none, .load false 1 (.r 13), some (11, false)⟩, ⟨none, .bin false .sub (.r 14) (.c (.int .i64 1)), some (11, false)⟩, ⟨none, .call false f_spec_l1In [(.r 12), (.c (.int .i64 0)), (.r 15)], some (11, false)⟩, ⟨none, .not (.r 16), some (11, false)⟩, ⟨some 11, .pick (.r 11) (.c (.bool true)) (.r 17), none⟩])
  (.cond (.v 11) (.seq (.region false [] [⟨some 4, .nilrow t_int true 1, none⟩, ⟨some 5, .nilrow t_int true 1, none⟩, ⟨some 6, .mov (.c (.bool false)), none⟩])
  .ret) .skip))
  (.seq (.region false [] [⟨none, .load true 2 (.v 3), none⟩, ⟨none, .mov (.v 1), none⟩, ⟨none, .call false f_spec_l3Forward [(.r 0), (.r 1)], none⟩, ⟨none, .mov (.r 2), none⟩, ⟨none, .extract (.r 3) 0, none⟩, ⟨none, .extract (.r 3) 1, none⟩, ⟨some 7, .mov (.r 4), none⟩, ⟨some 8, .mov (.r 5), none⟩])
  (.seq (.region false [] [⟨none, .load true 2 (.v 3), none⟩, ⟨none, .mov (.v 2), none⟩, ⟨none, .call false f_spec_l3Back [(.r 0), (.r 1)], none⟩, ⟨none, .mov (.r 2), none⟩, ⟨none, .extract (.r 3) 0, none⟩, ⟨none, .extract (.r 3) 1, none⟩, ⟨some 9, .mov (.r 4), none⟩, ⟨some 10, .mov (.r 5), none⟩])
  (.seq (.region false [] [⟨none, .mov (.v 7), none⟩, ⟨none, .mov (.v 9), none⟩, ⟨none, .call false f_spec_l3Both [(.r 0), (.r 1)], none⟩, ⟨none, .mov (.v 8), none⟩, ⟨none, .mov (.v 10), none⟩, ⟨none, .call false f_spec_l3Both [(.r 3), (.r 4)], none⟩, ⟨some 4, .mov (.r 2), none⟩, ⟨some 5, .mov (.r 5), none⟩, ⟨some 6, .mov (.c (.bool true)), none⟩])
  .ret))))),
  [.v 4, .v 5, .v 6]⟩
def ir_spec_l1Has : IFun := ⟨[0, 1, 4, 6, 7, 8, 9, 10, 15],
  (.seq (.region false [] [⟨some 2, .mov (.c (.bool false)), none⟩])
  (.seq (.seq (.region false [] [⟨some 4, .mov (.v 0), none⟩, ⟨some 5, .len false (.v 4), none⟩, ⟨some 6, .mov (.c (.int .i64 0)), none⟩])
  (.block 0 (.loop [false, true, false, false, true, true, true, false, false] (.seq (.region false [] [⟨some 7, .bin false .lss (.v 6) (.v 5), none⟩])
  (.seq (.cond (.v 7) .skip (.exit 0))
  (.seq (.block 1 (.seq (.region false [] [⟨none, .iaddr 1 (.v 4) (.v 6), none⟩, ⟨none, .load false 1 (.r 0), none⟩, ⟨some 3, .mov (.r 1), none⟩])
  (.seq (.region false [] [⟨none, .mov (.v 3), none⟩, ⟨none, .mov (.v 1), none⟩, ⟨some 8, .bin false .eql (.r 0) (.r 1), none⟩])
  (.cond (.v 8) (.seq (.region false [] [⟨some 2, .mov (.c (.bool true)), none⟩])
  .ret) .skip))))
  (.region false [] [⟨none, .bin false .add (.v 6) (.c (.int .i64 1)), none⟩, ⟨some 6, .mov (.r 0), none⟩])))))))
  (.seq (.region false [] [⟨some 2, .mov (.c (.bool false)), none⟩])
  .ret))),
  [.v 2]⟩
def ir_spec_GoodFlow : IFun := ⟨[0, 1, 2, 3, 4, 5, 7, 44, 47, 48, 49, 50, 78],
  (.seq (.region false [] [⟨some 1, .box t_impl_Flow 4 (.v 0), none⟩, ⟨some 2, .mov (.c (.bool false)), none⟩])
  (.seq (.region false [] [⟨none, .faddr 0 (.v 1), none⟩, ⟨none, .load true 2 (.r 0), none⟩, ⟨none, .faddr 2 (.v 1), none⟩, ⟨none, .load false 1 (.r 2), none⟩, ⟨none, .faddr 3 (.v 1), none⟩, ⟨none, .load false 1 (.r 4), none⟩, ⟨none, .call false f_spec_OnWay [(.r 1), (.r 3), (.r 5)], none⟩, ⟨none, .mov (.r 6), none⟩, ⟨none, .extract (.r 7) 0, none⟩, ⟨none, .extract (.r 7) 1, none⟩, ⟨none, .extract (.r 7) 2, none⟩, ⟨some 3, .mov (.r 8), none⟩, ⟨some 4, .mov (.r 9), none⟩, ⟨some 5, .mov (.r 10), none⟩])
  (.seq (.seq (.region false [] [⟨none, .mov (.v 5), none⟩, ⟨none, .not (.r 0), none⟩, ⟨none, .mov (.r 1), none⟩, ⟨none, .faddr 2 (.v 1), some (2, false)⟩, ⟨none, .load false 1 (.r 3), some (2, false)⟩, ⟨none, .faddr 3 (.v 1), some (2, false)⟩, ⟨none, .load false 1 (.r 5), some (2, false)⟩, ⟨none, .bin false .eql (.r 4) (.r 6), some (2, false)⟩, ⟨none, .pick (.r 2) (.c (.bool true)) (.r 7), none⟩, ⟨none, .mov (.r 8), none⟩, ⟨none, .mov (.v 3), some (9, false)⟩, ⟨none, .len false (.r 10), some (9, false)⟩, ⟨none, .faddr 0 (.v 1), some (9, false)⟩, ⟨none, .faddr 0 (.r 12), some (9, false)⟩, ⟨none, .load false 1 (.r 13), some (9, false)⟩, ⟨none, .bin false .neq (.r 11) (.r 14), some (9, false)⟩, ⟨none, .pick (.r 9) (.c (.bool true)) (.r 15), none⟩, ⟨none, .mov (.r 16), none⟩, ⟨none, .mov (.v 4), some (17, false)⟩, ⟨none, .len false (.r 18), some (17, false)⟩, ⟨none, .faddr 0 (.v 1), some (17, false)⟩, ⟨none, .faddr 1 (.r 20), some (17, false)⟩, ⟨none, .load false 1 (.r 21), some (17, false)⟩, ⟨none, .len false (.r 22), some (17, false)⟩, ⟨none, .bin false .neq (.r 19) (.r 23), some (17, false)⟩, ⟨some 7, .pick (.r 17) (.c (.bool true)) (.r 24), none⟩])
  (.cond (.v 7) (.seq (.region false [] [⟨some 2, .mov (.c (.bool false)), none⟩])
  .ret) .skip))
  (.seq (.seq (.region false [] [⟨none, .faddr 0 (.v 1), none⟩, ⟨none, .faddr 1 (.r 0), none⟩, ⟨some 8, .load false 1 (.r 1), none⟩, ⟨some 9, .len false (.v 8), none⟩, ⟨some 10, .mov (.c (.int .i64 0)), none⟩])
  (.block 0 (.loop [false, true, false, false, false, false, false, false, true, true, true, false, false] (.seq (.region false [] [⟨some 11, .bin false .lss (.v 10) (.v 9), none⟩])
  (.seq (.cond (.v 11) .skip (.exit 0))
  (.seq (.block 1 (.seq (.region false [] [⟨none, .iaddr 3 (.v 8) (.v 10), none⟩, ⟨none, .load true 3 (.r 0), none⟩, ⟨some 6, .alloc t_impl_Trans [(.nil true 1), (.nil true 1), (.nil true 1)], none⟩, ⟨none, .store 3 (.v 6) (.r 1), none⟩])
  (.seq (.region false [] [⟨none, .faddr 1 (.v 6), none⟩, ⟨none, .load false 1 (.r 0), none⟩, ⟨none, .faddr 2 (.v 1), none⟩, ⟨none, .load false 1 (.r 2), none⟩, ⟨none, .call false f_spec_l1Has [(.r 1), (.r 3)], none⟩, ⟨none, .mov (.r 4), none⟩, ⟨none, .faddr 0 (.v 6), some (5, false)⟩, ⟨none, .load false 1 (.r 6), some (5, false)⟩, ⟨none, .faddr 3 (.v 1), some (5, false)⟩, ⟨none, .load false 1 (.r 8), some (5, false)⟩, ⟨none, .call false f_spec_l1Has [(.r 7), (.r 9)], some (5, false)⟩, ⟨none, .pick (.r 5) (.c (.bool true)) (.r 10), none⟩, ⟨none, .mov (.r 11), none⟩, ⟨none, .faddr 2 (.v 6), some (12, false)⟩, ⟨none, .load false 1 (.r 13), some (12, false)⟩, ⟨none, .faddr 2 (.v 1), some (12, false)⟩, ⟨none, .load false 1 (.r 15), some (12, false)⟩, ⟨none, .call false f_spec_l1Has [(.r 14), (.r 16)], some (12, false)⟩, ⟨none, .pick (.r 12) (.c (.bool true)) (.r 17), none⟩, ⟨none, .mov (.r 18), none⟩, ⟨none, .faddr 2 (.v 6), some (19, false)⟩, ⟨none, .load false 1 (.r 20), some (19, false)⟩, ⟨none, .faddr 3 (.v 1), some (19, false)⟩, ⟨none, .load false 1 (.r 22), some (19, false)⟩, ⟨none, .call false f_spec_l1Has [(.r 21), (.r 23)], some (19, false)⟩, ⟨some 12, .pick (.r 19) (.c (.bool true)) (.r 24), none⟩])
  (.cond (.v 12) (.seq (.region false [] [⟨some 2, .mov (.c (.bool false)), none⟩])
  .ret) .skip))))
  (.region false [] [⟨none, .bin false .add (.v 10) (.c (.int .i64 1)), none⟩, ⟨some 10, .mov (.r 0), none⟩])))))))
  (.seq (.region false [] [⟨some 2, .mov (.c (.bool true)), none⟩])
  .ret))))),
  [.v 2]⟩
def ir_spec_l3One : IFun := ⟨[0, 1, 4, 5],
  (.seq (.region false [] [⟨some 2, .nilrow t_int true 1, none⟩])
  (.seq (.region false [] [⟨none, .mov (.v 0), none⟩, ⟨none, .mk t_int true 1 (.int .i64 0) (.r 0), none⟩, ⟨some 3, .mov (.r 1), none⟩])
  (.seq (.region false [] [⟨none, .mov (.v 3), none⟩, ⟨none, .mov (.v 1), none⟩, ⟨none, .iaddr 1 (.r 0) (.r 1), none⟩, ⟨none, .store 1 (.r 2) (.c (.int .i64 1)), none⟩])
  (.seq (.region false [] [⟨none, .mov (.v 3), none⟩, ⟨some 2, .mov (.r 0), none⟩])
  .ret)))),
  [.v 2]⟩
def ir_spec_StartOf : IFun := ⟨[0, 1, 2, 3, 6],
  (.seq (.region false [] [⟨some 1, .box t_impl_Flow 4 (.v 0), none⟩, ⟨some 2, .nilrow t_int true 1, none⟩, ⟨some 3, .mov (.c (.bool false)), none⟩])
  (.seq (.seq (.region false [] [⟨none, .load true 4 (.v 1), none⟩, ⟨none, .call false f_spec_GoodFlow [(.r 0)], none⟩, ⟨some 4, .not (.r 1), none⟩])
  (.cond (.v 4) (.seq (.region false [] [⟨some 2, .nilrow t_int true 1, none⟩, ⟨some 3, .mov (.c (.bool false)), none⟩])
  .ret) .skip))
  (.seq (.region false [] [⟨none, .faddr 0 (.v 1), none⟩, ⟨none, .faddr 0 (.r 0), none⟩, ⟨none, .load false 1 (.r 1), none⟩, ⟨none, .faddr 2 (.v 1), none⟩, ⟨none, .load false 1 (.r 3), none⟩, ⟨none, .call false f_spec_l3One [(.r 2), (.r 4)], none⟩, ⟨some 2, .mov (.r 5), none⟩, ⟨some 3, .mov (.c (.bool true)), none⟩])
  .ret))),
  [.v 2, .v 3]⟩
def ir_spec_l1Cur_net : IFun := ⟨[0, 1, 4, 5, 6, 7, 16, 32, 45, 46, 52, 58],
  (.seq (.region false [] [⟨some 2, .alloc t_impl_Net [(.int .i64 0), (.nil false 3)], none⟩])
  (.seq (.region false [] [⟨none, .mov (.v 0), none⟩, ⟨none, .callm f_spec_l1Cur_pick [(.r 0), (.c (.int .i64 4))], none⟩, ⟨none, .bin false .add (.c (.int .i64 2)) (.r 1), none⟩, ⟨none, .build [(.int .i64 0), (.nil false 3)] [(0, 1, (.r 2))], none⟩, ⟨some 3, .alloc t_impl_Net [(.int .i64 0), (.nil false 3)], none⟩, ⟨none, .store 2 (.v 3) (.r 3), none⟩])
  (.seq (.seq (.region false [] [⟨none, .mov (.v 0), none⟩, ⟨none, .callm f_spec_l1Cur_pick [(.r 0), (.c (.int .i64 5))], none⟩, ⟨none, .bin false .add (.c (.int .i64 1)) (.r 1), none⟩, ⟨some 4, .mov (.r 2), none⟩])
  (.block 0 (.loop [true, true, true, true, true, false, false, false, false, false, false, false] (.seq (.seq (.region false [] [⟨none, .mov (.v 4), none⟩, ⟨some 6, .bin false .gtr (.r 0) (.c (.int .i64 0)), none⟩])
  (.cond (.v 6) .skip (.exit 0)))
  (.seq (.block 1 (.seq (.region true [(7, 5)] [⟨none, .mov (.v 0), none⟩, ⟨none, .faddr 0 (.v 3), none⟩, ⟨none, .load false 1 (.r 1), none⟩, ⟨none, .mov (.v 0), none⟩, ⟨none, .faddr 0 (.v 3), none⟩, ⟨none, .load false 1 (.r 4), none⟩, ⟨some 5, .alloc t_impl_Trans [(.nil true 1), (.nil true 1), (.nil true 1)], none⟩, ⟨none, .callm f_spec_l1Cur_someOf [(.r 0), (.r 2), (.c (.int .i64 1)), (.c (.int .i64 2))], none⟩, ⟨none, .callm f_spec_l1Cur_someOf [(.r 3), (.r 5), (.c (.int .i64 0)), (.c (.int .i64 2))], none⟩, ⟨none, .build [(.nil true 1), (.nil true 1), (.nil true 1)] [(0, 1, (.r 7)), (1, 1, (.r 8))], none⟩, ⟨none, .store 3 (.v 5) (.r 9), none⟩])
  (.seq (.seq (.region false [] [⟨none, .mov (.v 1), none⟩, ⟨none, .mov (.r 0), none⟩, ⟨none, .mov (.v 0), some (1, true)⟩, ⟨none, .callm f_spec_l1Cur_one [(.r 2), (.c (.int .i64 5))], some (1, true)⟩, ⟨some 7, .pick (.r 1) (.r 3) (.c (.bool false)), none⟩])
  (.cond (.v 7) (.region false [] [⟨none, .mov (.v 0), none⟩, ⟨none, .faddr 0 (.v 3), none⟩, ⟨none, .load false 1 (.r 1), none⟩, ⟨none, .callm f_spec_l1Cur_someOf [(.r 0), (.r 2), (.c (.int .i64 1)), (.c (.int .i64 2))], none⟩, ⟨none, .faddr 2 (.v 5), none⟩, ⟨none, .store 1 (.r 4) (.r 3), none⟩]) .skip))
  (.region false [] [⟨none, .faddr 1 (.v 3), none⟩, ⟨none, .load false 1 (.r 0), none⟩, ⟨none, .load true 3 (.v 5), none⟩, ⟨none, .bslice false t_impl_Trans false 3 [(.r 2)], none⟩, ⟨none, .append t_impl_Trans false 3 (.r 1) (.r 3), none⟩, ⟨none, .faddr 1 (.v 3), none⟩, ⟨none, .store 1 (.r 5) (.r 4), none⟩]))))
  (.region false [] [⟨none, .mov (.v 4), none⟩, ⟨none, .bin false .sub (.r 0) (.c (.int .i64 1)), none⟩, ⟨some 4, .mov (.r 1), none⟩]))))))
  (.seq (.seq (.region false [] [⟨none, .mov (.v 0), none⟩, ⟨some 8, .callm f_spec_l1Cur_pick [(.r 0), (.c (.int .i64 40))], none⟩])
  (.block 2 (.seq (.region false [] [⟨none, .bin false .eql (.v 8) (.c (.int .i64 0)), none⟩, ⟨some 9, .mov (.r 0), none⟩])
  (.cond (.v 9) (.region false [] [⟨none, .mov (.v 0), none⟩, ⟨none, .bslice false t_int true 1 [(.c (.int .i64 0)), (.c (.int .i64 1)), (.c (.int .i64 17))], none⟩, ⟨none, .callm f_spec_l1Cur_among [(.r 0), (.r 1)], none⟩, ⟨none, .faddr 0 (.v 3), none⟩, ⟨none, .store 1 (.r 3) (.r 2), none⟩]) (.seq (.region false [] [⟨none, .bin false .eql (.v 8) (.c (.int .i64 1)), none⟩, ⟨some 10, .mov (.r 0), none⟩])
  (.cond (.v 10) (.region false [] [⟨none, .faddr 1 (.v 3), none⟩, ⟨none, .load false 1 (.r 0), none⟩, ⟨none, .iaddr 3 (.r 1) (.c (.int .i64 0)), none⟩, ⟨none, .faddr 0 (.r 2), none⟩, ⟨none, .store 1 (.r 3) (.c (.nil true 1)), none⟩]) (.seq (.region false [] [⟨none, .bin false .eql (.v 8) (.c (.int .i64 2)), none⟩, ⟨some 11, .mov (.r 0), none⟩])
  (.cond (.v 11) (.region false [] [⟨none, .faddr 1 (.v 3), none⟩, ⟨none, .load false 1 (.r 0), none⟩, ⟨none, .bslice false t_int true 1 [(.c (.int .i64 1)), (.c (.int .i64 0))], none⟩, ⟨none, .iaddr 3 (.r 1) (.c (.int .i64 0)), none⟩, ⟨none, .faddr 1 (.r 3), none⟩, ⟨none, .store 1 (.r 4) (.r 2), none⟩]) .skip))))))))
  (.seq (.region false [] [⟨none, .load true 2 (.v 3), none⟩, ⟨none, .store 2 (.v 2) (.r 0), none⟩])
  .ret))))),
  [.cell true 2 2]⟩
def ir_spec_l1Most : IFun := ⟨[0, 1, 4, 7],
  (.seq (.region false [] [⟨some 2, .mov (.c (.int .i64 0)), none⟩])
  (.seq (.seq (.region false [] [⟨none, .mov (.v 0), none⟩, ⟨none, .mov (.v 1), none⟩, ⟨some 3, .bin false .gtr (.r 0) (.r 1), none⟩])
  (.cond (.v 3) (.seq (.region false [] [⟨none, .mov (.v 0), none⟩, ⟨some 2, .mov (.r 0), none⟩])
  .ret) .skip))
  (.seq (.region false [] [⟨none, .mov (.v 1), none⟩, ⟨some 2, .mov (.r 0), none⟩])
  .ret))),
  [.v 2]⟩
def ir_spec_l1Cur_markOf : IFun := ⟨[0, 1, 3, 4, 5, 6, 10, 26],
  (.seq (.region false [] [⟨some 2, .box t_impl_Net 2 (.v 1), none⟩, ⟨some 3, .nilrow t_int true 1, none⟩])
  (.seq (.region false [] [⟨some 4, .nilrow t_int true 1, none⟩])
  (.seq (.seq (.region false [] [⟨some 5, .mov (.c (.int .i64 0)), none⟩])
  (.block 0 (.loop [true, false, true, false, true, true, false, false] (.seq (.seq (.region false [] [⟨none, .mov (.v 5), none⟩, ⟨none, .faddr 0 (.v 2), none⟩, ⟨none, .load false 1 (.r 1), none⟩, ⟨some 6, .bin false .lss (.r 0) (.r 2), none⟩])
  (.cond (.v 6) .skip (.exit 0)))
  (.seq (.block 1 (.region false [] [⟨none, .mov (.v 4), none⟩, ⟨none, .mov (.v 0), none⟩, ⟨none, .callm f_spec_l1Cur_pick [(.r 1), (.c (.int .i64 4))], none⟩, ⟨none, .bin false .sub (.r 2) (.c (.int .i64 1)), none⟩, ⟨none, .call false f_spec_l1Most [(.c (.int .i64 0)), (.r 3)], none⟩, ⟨none, .bslice false t_int true 1 [(.r 4)], none⟩, ⟨none, .append t_int true 1 (.r 0) (.r 5), none⟩, ⟨some 4, .mov (.r 6), none⟩]))
  (.region false [] [⟨none, .mov (.v 5), none⟩, ⟨none, .bin false .add (.r 0) (.c (.int .i64 1)), none⟩, ⟨some 5, .mov (.r 1), none⟩]))))))
  (.seq (.seq (.region false [] [⟨none, .mov (.v 0), none⟩, ⟨none, .callm f_spec_l1Cur_one [(.r 0), (.c (.int .i64 30))], none⟩, ⟨none, .mov (.r 1), none⟩, ⟨none, .mov (.v 4), some (2, true)⟩, ⟨none, .len false (.r 3), some (2, true)⟩, ⟨none, .bin false .gtr (.r 4) (.c (.int .i64 0)), some (2, true)⟩, ⟨some 7, .pick (.r 2) (.r 5) (.c (.bool false)), none⟩])
  (.cond (.v 7) (.region false [] [⟨none, .mov (.v 4), none⟩, ⟨none, .mov (.v 0), none⟩, ⟨none, .bslice false t_int true 1 [(.c (.int .i64 50)), (.c (.int .i64 51)), (.c (.int .i64 (-1)))], none⟩, ⟨none, .callm f_spec_l1Cur_among [(.r 1), (.r 2)], none⟩, ⟨none, .iaddr 1 (.r 0) (.c (.int .i64 0)), none⟩, ⟨none, .store 1 (.r 4) (.r 3), none⟩]) .skip))
  (.seq (.region false [] [⟨none, .mov (.v 4), none⟩, ⟨some 3, .mov (.r 0), none⟩])
  .ret))))),
  [.v 3]⟩
def ir_spec_l1Cur_walked : IFun := ⟨[0, 2, 3, 4, 5, 6, 7, 8, 9, 11, 19, 26, 27, 28, 29, 44],
  (.seq (.region false [] [⟨some 1, .alloc t_impl_Net [(.int .i64 0), (.nil false 3)], none⟩, ⟨some 2, .nilrow t_int true 1, none⟩])
  (.seq (.seq (.region false [] [⟨none, .mov (.v 0), none⟩, ⟨some 9, .callm f_spec_l1Cur_one [(.r 0), (.c (.int .i64 3))], none⟩])
  (.cond (.v 9) (.seq (.region false [] [⟨none, .mov (.v 0), none⟩, ⟨none, .callm f_spec_l1Cur_flow [(.r 0), (.c (.bool true))], none⟩, ⟨some 3, .alloc t_impl_Flow [(.int .i64 0), (.nil false 3), (.int .i64 0), (.int .i64 0)], none⟩, ⟨none, .store 4 (.v 3) (.r 1), none⟩])
  (.seq (.region false [] [⟨none, .load true 4 (.v 3), none⟩, ⟨none, .call false f_spec_StartOf [(.r 0)], none⟩, ⟨none, .mov (.r 1), none⟩, ⟨none, .extract (.r 2) 0, none⟩, ⟨none, .extract (.r 2) 1, none⟩, ⟨some 4, .mov (.r 3), none⟩, ⟨some 5, .mov (.r 4), none⟩])
  (.seq (.region false [] [⟨some 10, .mov (.v 5), none⟩])
  (.cond (.v 10) (.seq (.region false [] [⟨none, .faddr 0 (.v 3), none⟩, ⟨none, .load true 2 (.r 0), none⟩, ⟨none, .mov (.v 4), none⟩, ⟨none, .store 2 (.v 1) (.r 1), none⟩, ⟨some 2, .mov (.r 2), none⟩])
  .ret) .skip)))) .skip))
  (.seq (.region false [] [⟨none, .mov (.v 0), none⟩, ⟨none, .callm f_spec_l1Cur_net [(.r 0), (.c (.bool true))], none⟩, ⟨some 6, .alloc t_impl_Net [(.int .i64 0), (.nil false 3)], none⟩, ⟨none, .store 2 (.v 6) (.r 1), none⟩])
  (.seq (.seq (.region false [] [⟨none, .faddr 1 (.v 6), none⟩, ⟨some 11, .load false 1 (.r 0), none⟩, ⟨some 12, .len false (.v 11), none⟩, ⟨some 13, .mov (.c (.int .i64 0)), none⟩])
  (.block 0 (.loop [true, true, false, false, false, false, true, false, false, false, false, true, true, true, false, false] (.seq (.region false [] [⟨some 14, .bin false .lss (.v 13) (.v 12), none⟩])
  (.seq (.cond (.v 14) .skip (.exit 0))
  (.seq (.block 1 (.seq (.region false [] [⟨none, .mov (.v 13), none⟩, ⟨none, .iaddr 3 (.v 11) (.v 13), none⟩, ⟨none, .load true 3 (.r 1), none⟩, ⟨some 8, .alloc t_impl_Trans [(.nil true 1), (.nil true 1), (.nil true 1)], none⟩, ⟨some 7, .mov (.r 0), none⟩, ⟨none, .store 3 (.v 8) (.r 2), none⟩])
  (.seq (.region false [] [⟨none, .faddr 1 (.v 8), none⟩, ⟨none, .load false 1 (.r 0), none⟩, ⟨none, .len false (.r 1), none⟩, ⟨none, .faddr 0 (.v 8), none⟩, ⟨none, .load false 1 (.r 3), none⟩, ⟨none, .len false (.r 4), none⟩, ⟨none, .bin false .gtr (.r 2) (.r 5), none⟩, ⟨none, .mov (.r 6), none⟩, ⟨none, .mov (.v 0), some (7, true)⟩, ⟨none, .callm f_spec_l1Cur_one [(.r 8), (.c (.int .i64 6))], some (7, true)⟩, ⟨none, .not (.r 9), some (7, true)⟩, ⟨some 15, .pick (.r 7) (.r 10) (.c (.bool false)), none⟩])
  (.cond (.v 15) (.region true [] [⟨none, .faddr 1 (.v 6), none⟩, ⟨none, .load false 1 (.r 0), none⟩, ⟨none, .mov (.v 7), none⟩, ⟨none, .faddr 1 (.v 8), none⟩, ⟨none, .load false 1 (.r 3), none⟩, ⟨none, .faddr 0 (.v 8), none⟩, ⟨none, .load false 1 (.r 5), none⟩, ⟨none, .len false (.r 6), none⟩, ⟨none, .slice 1 (.r 4) none (some (.r 7)), none⟩, ⟨none, .iaddr 3 (.r 1) (.r 2), none⟩, ⟨none, .faddr 1 (.r 9), none⟩, ⟨none, .store 1 (.r 10) (.r 8), none⟩]) .skip))))
  (.region false [] [⟨none, .bin false .add (.v 13) (.c (.int .i64 1)), none⟩, ⟨some 13, .mov (.r 0), none⟩])))))))
  (.seq (.region true [(3, 0)] [⟨none, .load true 2 (.v 6), none⟩, ⟨none, .mov (.v 0), none⟩, ⟨none, .load true 2 (.v 6), none⟩, ⟨none, .callm f_spec_l1Cur_markOf [(.r 1), (.r 2)], none⟩, ⟨none, .store 2 (.v 1) (.r 0), none⟩, ⟨some 2, .mov (.r 3), none⟩])
  .ret))))),
  [.cell true 2 1, .v 2]⟩
def ir_spec_l1Cur_budget : IFun := ⟨[0, 2],
  (.seq (.region false [] [⟨some 1, .mov (.c (.int .i64 0)), none⟩])
  (.seq (.region false [] [⟨none, .mov (.v 0), none⟩, ⟨none, .bslice false t_int true 1 [(.c (.int .i64 1)), (.c (.int .i64 5)), (.c (.int .i64 20)), (.c (.int .i64 100)), (.c (.int .i64 100)), (.c (.int .i64 400)), (.c (.int .i64 401)), (.c (.int .i64 0))], none⟩, ⟨none, .callm f_spec_l1Cur_among [(.r 0), (.r 1)], none⟩, ⟨some 1, .mov (.r 2), none⟩])
  .ret)),
  [.v 1]⟩
def ir_spec_l1Own : IFun := ⟨[0, 2],
  (.seq (.region false [] [⟨some 1, .nilrow t_int true 1, none⟩])
  (.seq (.region false [] [⟨none, .bslice false t_int true 1 [], none⟩, ⟨none, .mov (.v 0), none⟩, ⟨none, .append t_int true 1 (.r 0) (.r 1), none⟩, ⟨some 1, .mov (.r 2), none⟩])
  .ret)),
  [.v 1]⟩
def ir_spec_l1All : IFun := ⟨[0, 1, 2, 6, 8, 9, 10, 11, 12, 19],
  (.seq (.region false [] [⟨some 3, .mov (.c (.bool false)), none⟩])
  (.seq (.seq (.region false [] [⟨some 5, .mov (.v 0), none⟩, ⟨some 6, .len false (.v 5), none⟩, ⟨some 7, .mov (.c (.int .i64 0)), none⟩])
  (.block 0 (.loop [false, true, true, false, false, true, true, true, false, false] (.seq (.region false [] [⟨some 8, .bin false .lss (.v 7) (.v 6), none⟩])
  (.seq (.cond (.v 8) .skip (.exit 0))
  (.seq (.block 1 (.seq (.region false [] [⟨none, .iaddr 1 (.v 5) (.v 7), none⟩, ⟨none, .load false 1 (.r 0), none⟩, ⟨some 4, .mov (.r 1), none⟩])
  (.seq (.region false [] [⟨none, .mov (.v 4), none⟩, ⟨none, .mov (.v 1), none⟩, ⟨none, .mov (.v 2), none⟩, ⟨none, .call false f_spec_l1In [(.r 0), (.r 1), (.r 2)], none⟩, ⟨some 9, .not (.r 3), none⟩])
  (.cond (.v 9) (.seq (.region false [] [⟨some 3, .mov (.c (.bool false)), none⟩])
  .ret) .skip))))
  (.region false [] [⟨none, .bin false .add (.v 7) (.c (.int .i64 1)), none⟩, ⟨some 7, .mov (.r 0), none⟩])))))))
  (.seq (.region false [] [⟨some 3, .mov (.c (.bool true)), none⟩])
  .ret))),
  [.v 3]⟩
def ir_spec_GoodMark : IFun := ⟨[0, 1, 4],
  (.seq (.region false [] [⟨some 2, .mov (.c (.bool false)), none⟩])
  (.seq (.region false [] [⟨none, .mov (.v 0), none⟩, ⟨none, .call false f_spec_l1Places [(.r 0)], none⟩, ⟨none, .mov (.r 1), none⟩, ⟨none, .mov (.v 1), some (2, true)⟩, ⟨none, .len false (.r 3), some (2, true)⟩, ⟨none, .mov (.v 0), some (2, true)⟩, ⟨none, .bin false .eql (.r 4) (.r 5), some (2, true)⟩, ⟨none, .pick (.r 2) (.r 6) (.c (.bool false)), none⟩, ⟨none, .mov (.r 7), none⟩, ⟨none, .mov (.v 1), some (8, true)⟩, ⟨none, .call false f_spec_l1All [(.r 9), (.c (.int .i64 0)), (.c (.int .i64 50))], some (8, true)⟩, ⟨none, .pick (.r 8) (.r 10) (.c (.bool false)), none⟩, ⟨some 2, .mov (.r 11), none⟩])
  .ret)),
  [.v 2]⟩
def ir_spec_l2Marked : IFun := ⟨[0, 1, 2, 4],
  (.seq (.region false [] [⟨some 2, .box t_impl_Net 2 (.v 0), none⟩, ⟨some 3, .mov (.c (.bool false)), none⟩])
  (.seq (.region false [] [⟨none, .load true 2 (.v 2), none⟩, ⟨none, .call false f_spec_GoodNet [(.r 0)], none⟩, ⟨none, .mov (.r 1), none⟩, ⟨none, .faddr 0 (.v 2), some (2, true)⟩, ⟨none, .load false 1 (.r 3), some (2, true)⟩, ⟨none, .mov (.v 1), some (2, true)⟩, ⟨none, .call false f_spec_GoodMark [(.r 4), (.r 5)], some (2, true)⟩, ⟨none, .pick (.r 2) (.r 6) (.c (.bool false)), none⟩, ⟨some 3, .mov (.r 7), none⟩])
  .ret)),
  [.v 3]⟩
def ir_spec_l2Can : IFun := ⟨[0, 1, 2, 4, 6, 8, 9, 10, 11, 18],
  (.seq (.region false [] [⟨some 2, .box t_impl_Trans 3 (.v 0), none⟩, ⟨some 3, .mov (.c (.bool false)), none⟩])
  (.seq (.seq (.region false [] [⟨none, .faddr 0 (.v 2), none⟩, ⟨some 5, .load false 1 (.r 0), none⟩, ⟨some 6, .len false (.v 5), none⟩, ⟨some 7, .mov (.c (.int .i64 0)), none⟩])
  (.block 0 (.loop [false, true, false, false, false, true, true, true, false, false] (.seq (.region false [] [⟨some 8, .bin false .lss (.v 7) (.v 6), none⟩])
  (.seq (.cond (.v 8) .skip (.exit 0))
  (.seq (.block 1 (.seq (.region false [] [⟨none, .iaddr 1 (.v 5) (.v 7), none⟩, ⟨none, .load false 1 (.r 0), none⟩, ⟨some 4, .mov (.r 1), none⟩])
  (.seq (.region false [] [⟨none, .mov (.v 1), none⟩, ⟨none, .mov (.v 4), none⟩, ⟨none, .iaddr 1 (.r 0) (.r 1), none⟩, ⟨none, .load false 1 (.r 2), none⟩, ⟨some 9, .bin false .eql (.r 3) (.c (.int .i64 0)), none⟩])
  (.cond (.v 9) (.seq (.region false [] [⟨some 3, .mov (.c (.bool false)), none⟩])
  .ret) .skip))))
  (.region false [] [⟨none, .bin false .add (.v 7) (.c (.int .i64 1)), none⟩, ⟨some 7, .mov (.r 0), none⟩])))))))
  (.seq (.region false [] [⟨some 3, .mov (.c (.bool true)), none⟩])
  .ret))),
  [.v 3]⟩
def ir_spec_l2Enabled : IFun := ⟨[0, 1, 2, 4, 5, 6, 7, 9, 10, 11, 12, 18],
  (.seq (.region false [] [⟨some 2, .box t_impl_Net 2 (.v 0), none⟩, ⟨some 3, .nilrow t_int true 1, none⟩])
  (.seq (.region false [] [⟨some 4, .nilrow t_int true 1, none⟩])
  (.seq (.seq (.region false [] [⟨none, .faddr 1 (.v 2), none⟩, ⟨some 7, .load false 1 (.r 0), none⟩, ⟨some 8, .len false (.v 7), none⟩, ⟨some 9, .mov (.c (.int .i64 0)), none⟩])
  (.block 0 (.loop [false, true, false, false, true, false, false, true, true, true, false, false] (.seq (.region false [] [⟨some 10, .bin false .lss (.v 9) (.v 8), none⟩])
  (.seq (.cond (.v 10) .skip (.exit 0))
  (.seq (.block 1 (.seq (.region false [] [⟨none, .mov (.v 9), none⟩, ⟨none, .iaddr 3 (.v 7) (.v 9), none⟩, ⟨none, .load true 3 (.r 1), none⟩, ⟨some 6, .alloc t_impl_Trans [(.nil true 1), (.nil true 1), (.nil true 1)], none⟩, ⟨some 5, .mov (.r 0), none⟩, ⟨none, .store 3 (.v 6) (.r 2), none⟩])
  (.seq (.region false [] [⟨none, .load true 3 (.v 6), none⟩, ⟨none, .mov (.v 1), none⟩, ⟨some 11, .call false f_spec_l2Can [(.r 0), (.r 1)], none⟩])
  (.cond (.v 11) (.region false [] [⟨none, .mov (.v 4), none⟩, ⟨none, .mov (.v 5), none⟩, ⟨none, .bslice false t_int true 1 [(.r 1)], none⟩, ⟨none, .append t_int true 1 (.r 0) (.r 2), none⟩, ⟨some 4, .mov (.r 3), none⟩]) .skip))))
  (.region false [] [⟨none, .bin false .add (.v 9) (.c (.int .i64 1)), none⟩, ⟨some 9, .mov (.r 0), none⟩])))))))
  (.seq (.region false [] [⟨none, .mov (.v 4), none⟩, ⟨some 3, .mov (.r 0), none⟩])
  .ret)))),
  [.v 3]⟩
def ir_spec_Enabled : IFun := ⟨[0, 1, 2, 4, 5, 9],
  (.seq (.region false [] [⟨some 2, .box t_impl_Net 2 (.v 0), none⟩, ⟨some 3, .nilrow t_int true 1, none⟩, ⟨some 4, .mov (.c (.bool false)), none⟩])
  (.seq (.seq (.region false [] [⟨none, .load true 2 (.v 2), none⟩, ⟨none, .mov (.v 1), none⟩, ⟨none, .call false f_spec_l2Marked [(.r 0), (.r 1)], none⟩, ⟨some 5, .not (.r 2), none⟩])
  (.cond (.v 5) (.seq (.region false [] [⟨some 3, .nilrow t_int true 1, none⟩, ⟨some 4, .mov (.c (.bool false)), none⟩])
  .ret) .skip))
  (.seq (.region false [] [⟨none, .load true 2 (.v 2), none⟩, ⟨none, .mov (.v 1), none⟩, ⟨none, .call false f_spec_l2Enabled [(.r 0), (.r 1)], none⟩, ⟨some 3, .mov (.r 2), none⟩, ⟨some 4, .mov (.c (.bool true)), none⟩])
  .ret))),
  [.v 3, .v 4]⟩
def ir_spec_l2Fire : IFun := ⟨[0, 1, 2, 4, 5, 7, 9, 11, 15, 16, 17, 18, 29, 30, 31, 32, 40, 41, 42, 43],
  (.seq (.region false [] [⟨some 2, .box t_impl_Trans 3 (.v 0), none⟩, ⟨some 3, .nilrow t_int true 1, none⟩])
  (.seq (.region false [] [⟨none, .mov (.v 1), none⟩, ⟨none, .call false f_spec_l1Own [(.r 0)], none⟩, ⟨some 4, .mov (.r 1), none⟩])
  (.seq (.seq (.region false [] [⟨none, .faddr 0 (.v 2), none⟩, ⟨some 8, .load false 1 (.r 0), none⟩, ⟨some 9, .len false (.v 8), none⟩, ⟨some 10, .mov (.c (.int .i64 0)), none⟩])
  (.block 0 (.loop [false, false, true, false, true, false, false, false, true, true, true, false, false, false, false, false, false, false, false, false] (.seq (.region false [] [⟨some 11, .bin false .lss (.v 10) (.v 9), none⟩])
  (.seq (.cond (.v 11) .skip (.exit 0))
  (.seq (.block 1 (.seq (.region false [] [⟨none, .iaddr 1 (.v 8) (.v 10), none⟩, ⟨none, .load false 1 (.r 0), none⟩, ⟨some 5, .mov (.r 1), none⟩])
  (.region false [] [⟨none, .mov (.v 4), none⟩, ⟨none, .mov (.v 5), none⟩, ⟨none, .iaddr 1 (.r 0) (.r 1), none⟩, ⟨none, .load false 1 (.r 2), none⟩, ⟨none, .bin false .sub (.r 3) (.c (.int .i64 1)), none⟩, ⟨none, .iaddr 1 (.r 0) (.r 1), none⟩, ⟨none, .store 1 (.r 5) (.r 4), none⟩])))
  (.region false [] [⟨none, .bin false .add (.v 10) (.c (.int .i64 1)), none⟩, ⟨some 10, .mov (.r 0), none⟩])))))))
  (.seq (.seq (.region false [] [⟨none, .faddr 2 (.v 2), none⟩, ⟨some 12, .load false 1 (.r 0), none⟩, ⟨some 13, .len false (.v 12), none⟩, ⟨some 14, .mov (.c (.int .i64 0)), none⟩])
  (.block 2 (.loop [false, false, true, false, true, false, false, false, false, false, false, false, true, true, true, false, false, false, false, false] (.seq (.region false [] [⟨some 15, .bin false .lss (.v 14) (.v 13), none⟩])
  (.seq (.cond (.v 15) .skip (.exit 2))
  (.seq (.block 3 (.seq (.region false [] [⟨none, .iaddr 1 (.v 12) (.v 14), none⟩, ⟨none, .load false 1 (.r 0), none⟩, ⟨some 6, .mov (.r 1), none⟩])
  (.region false [] [⟨none, .mov (.v 4), none⟩, ⟨none, .mov (.v 6), none⟩, ⟨none, .iaddr 1 (.r 0) (.r 1), none⟩, ⟨none, .store 1 (.r 2) (.c (.int .i64 0)), none⟩])))
  (.region false [] [⟨none, .bin false .add (.v 14) (.c (.int .i64 1)), none⟩, ⟨some 14, .mov (.r 0), none⟩])))))))
  (.seq (.seq (.region false [] [⟨none, .faddr 1 (.v 2), none⟩, ⟨some 16, .load false 1 (.r 0), none⟩, ⟨some 17, .len false (.v 16), none⟩, ⟨some 18, .mov (.c (.int .i64 0)), none⟩])
  (.block 4 (.loop [false, false, false, false, true, false, false, false, false, false, false, false, false, false, false, false, true, true, true, false] (.seq (.region false [] [⟨some 19, .bin false .lss (.v 18) (.v 17), none⟩])
  (.seq (.cond (.v 19) .skip (.exit 4))
  (.seq (.block 5 (.seq (.region false [] [⟨none, .iaddr 1 (.v 16) (.v 18), none⟩, ⟨none, .load false 1 (.r 0), none⟩, ⟨some 7, .mov (.r 1), none⟩])
  (.region false [] [⟨none, .mov (.v 4), none⟩, ⟨none, .mov (.v 7), none⟩, ⟨none, .iaddr 1 (.r 0) (.r 1), none⟩, ⟨none, .load false 1 (.r 2), none⟩, ⟨none, .bin false .add (.r 3) (.c (.int .i64 1)), none⟩, ⟨none, .iaddr 1 (.r 0) (.r 1), none⟩, ⟨none, .store 1 (.r 5) (.r 4), none⟩])))
  (.region false [] [⟨none, .bin false .add (.v 18) (.c (.int .i64 1)), none⟩, ⟨some 18, .mov (.r 0), none⟩])))))))
  (.seq (.region false [] [⟨none, .mov (.v 4), none⟩, ⟨some 3, .mov (.r 0), none⟩])
  .ret)))))),
  [.v 3]⟩
def ir_spec_Fire : IFun := ⟨[0, 1, 2, 3, 6, 7, 8, 31, 43],
  (.seq (.region false [] [⟨some 3, .box t_impl_Net 2 (.v 0), none⟩, ⟨some 4, .nilrow t_int true 1, none⟩, ⟨some 5, .mov (.c (.bool false)), none⟩])
  (.seq (.seq (.region false [] [⟨none, .load true 2 (.v 3), none⟩, ⟨none, .mov (.v 1), none⟩, ⟨none, .call false f_spec_l2Marked [(.r 0), (.r 1)], none⟩, ⟨none, .not (.r 2), none⟩, ⟨none, .mov (.r 3), none⟩, ⟨none, .mov (.v 2), some (4, false)⟩, ⟨none, .faddr 1 (.v 3), some (4, false)⟩, ⟨none, .load false 1 (.r 6), some (4, false)⟩, ⟨none, .len false (.r 7), some (4, false)⟩, ⟨none, .bin false .sub (.r 8) (.c (.int .i64 1)), some (4, false)⟩, ⟨none, .call false f_spec_l1In [(.r 5), (.c (.int .i64 0)), (.r 9)], some (4, false)⟩, ⟨none, .not (.r 10), some (4, false)⟩, ⟨none, .pick (.r 4) (.c (.bool true)) (.r 11), none⟩, ⟨none, .mov (.r 12), none⟩, ⟨none, .faddr 1 (.v 3), some (13, false)⟩, ⟨none, .load false 1 (.r 14), some (13, false)⟩, ⟨none, .mov (.v 2), some (13, false)⟩, ⟨none, .iaddr 3 (.r 15) (.r 16), some (13, false)⟩, ⟨none, .load true 3 (.r 17), some (13, false)⟩, ⟨none, .mov (.v 1), some (13, false)⟩, ⟨none, .call false f_spec_l2Can [(.r 18), (.r 19)], some (13, false)⟩, ⟨none, .not (.r 20), some (13, false)⟩, ⟨some 7, .pick (.r 13) (.c (.bool true)) (.r 21), none⟩])
  (.cond (.v 7) (.seq (.region false [] [⟨some 4, .nilrow t_int true 1, none⟩, ⟨some 5, .mov (.c (.bool false)), none⟩])
  .ret) .skip))
  (.seq (.region false [] [⟨none, .faddr 1 (.v 3), none⟩, ⟨none, .load false 1 (.r 0), none⟩, ⟨none, .mov (.v 2), none⟩, ⟨none, .iaddr 3 (.r 1) (.r 2), none⟩, ⟨none, .load true 3 (.r 3), none⟩, ⟨none, .mov (.v 1), none⟩, ⟨none, .call false f_spec_l2Fire [(.r 4), (.r 5)], none⟩, ⟨some 6, .mov (.r 6), none⟩])
  (.seq (.seq (.region false [] [⟨none, .faddr 0 (.v 3), none⟩, ⟨none, .load false 1 (.r 0), none⟩, ⟨none, .mov (.v 6), none⟩, ⟨none, .call false f_spec_GoodMark [(.r 1), (.r 2)], none⟩, ⟨some 8, .not (.r 3), none⟩])
  (.cond (.v 8) (.seq (.region false [] [⟨some 4, .nilrow t_int true 1, none⟩, ⟨some 5, .mov (.c (.bool false)), none⟩])
  .ret) .skip))
  (.seq (.region false [] [⟨none, .mov (.v 6), none⟩, ⟨some 4, .mov (.r 0), none⟩, ⟨some 5, .mov (.c (.bool true)), none⟩])
  .ret))))),
  [.v 4, .v 5]⟩
def ir_spec_l1Cur_metMark : IFun := ⟨[0, 1, 2, 4, 6, 7, 8, 9, 10, 11, 12, 18, 32, 46, 49],
  (.seq (.region false [] [⟨some 3, .box t_impl_Net 2 (.v 1), none⟩, ⟨some 4, .nilrow t_int true 1, none⟩])
  (.seq (.region false [] [⟨none, .mov (.v 2), none⟩, ⟨none, .call false f_spec_l1Own [(.r 0)], none⟩, ⟨some 5, .mov (.r 1), none⟩])
  (.seq (.seq (.region false [] [⟨none, .mov (.v 0), none⟩, ⟨none, .callm f_spec_l1Cur_pick [(.r 0), (.c (.int .i64 6))], none⟩, ⟨some 6, .mov (.r 1), none⟩])
  (.block 0 (.loop [true, false, false, true, false, true, true, false, false, false, false, false, false, false, false] (.seq (.seq (.region false [] [⟨none, .mov (.v 6), none⟩, ⟨some 11, .bin false .gtr (.r 0) (.c (.int .i64 0)), none⟩])
  (.cond (.v 11) .skip (.exit 0)))
  (.seq (.block 1 (.seq (.region false [] [⟨none, .load true 2 (.v 3), none⟩, ⟨none, .mov (.v 5), none⟩, ⟨none, .call false f_spec_Enabled [(.r 0), (.r 1)], none⟩, ⟨none, .mov (.r 2), none⟩, ⟨none, .extract (.r 3) 0, none⟩, ⟨none, .extract (.r 3) 1, none⟩, ⟨some 7, .mov (.r 4), none⟩, ⟨some 8, .mov (.r 5), none⟩])
  (.seq (.region false [] [⟨none, .mov (.v 8), none⟩, ⟨none, .mov (.r 0), none⟩, ⟨none, .mov (.v 7), some (1, true)⟩, ⟨none, .len false (.r 2), some (1, true)⟩, ⟨none, .bin false .gtr (.r 3) (.c (.int .i64 0)), some (1, true)⟩, ⟨some 12, .pick (.r 1) (.r 4) (.c (.bool false)), none⟩])
  (.cond (.v 12) (.seq (.region true [(6, 0)] [⟨none, .load true 2 (.v 3), none⟩, ⟨none, .mov (.v 5), none⟩, ⟨none, .mov (.v 7), none⟩, ⟨none, .mov (.v 0), none⟩, ⟨none, .mov (.v 7), none⟩, ⟨none, .len false (.r 4), none⟩, ⟨none, .callm f_spec_l1Cur_pick [(.r 3), (.r 5)], none⟩, ⟨none, .iaddr 1 (.r 2) (.r 6), none⟩, ⟨none, .load false 1 (.r 7), none⟩, ⟨none, .call false f_spec_Fire [(.r 0), (.r 1), (.r 8)], none⟩, ⟨none, .mov (.r 9), none⟩, ⟨none, .extract (.r 10) 0, none⟩, ⟨none, .extract (.r 10) 1, none⟩, ⟨some 9, .mov (.r 11), none⟩, ⟨some 10, .mov (.r 12), none⟩])
  (.seq (.region false [] [⟨some 13, .mov (.v 10), none⟩])
  (.cond (.v 13) (.region false [] [⟨none, .mov (.v 9), none⟩, ⟨some 5, .mov (.r 0), none⟩]) .skip))) .skip))))
  (.region false [] [⟨none, .mov (.v 6), none⟩, ⟨none, .bin false .sub (.r 0) (.c (.int .i64 1)), none⟩, ⟨some 6, .mov (.r 1), none⟩]))))))
  (.seq (.seq (.region false [] [⟨none, .mov (.v 0), none⟩, ⟨some 14, .callm f_spec_l1Cur_one [(.r 0), (.c (.int .i64 4))], none⟩])
  (.cond (.v 14) (.seq (.region false [] [⟨none, .mov (.v 0), none⟩, ⟨none, .load true 2 (.v 3), none⟩, ⟨none, .callm f_spec_l1Cur_markOf [(.r 0), (.r 1)], none⟩, ⟨some 4, .mov (.r 2), none⟩])
  .ret) .skip))
  (.seq (.region false [] [⟨none, .mov (.v 5), none⟩, ⟨some 4, .mov (.r 0), none⟩])
  .ret))))),
  [.v 4]⟩
def ir_spec_DrawWayTo : IFun := ⟨[0, 2, 3, 4, 5, 6, 7, 8, 9],
  (.seq (.region false [] [⟨some 1, .alloc t_impl_Net [(.int .i64 0), (.nil false 3)], none⟩, ⟨some 2, .nilrow t_int true 1, none⟩, ⟨some 3, .mov (.c (.int .i64 0)), none⟩, ⟨some 4, .nilrow t_int true 1, none⟩])
  (.seq (.region false [] [⟨none, .mov (.v 0), none⟩, ⟨none, .build [(.nil true 1), (.int .i64 0), (.int .u64 0)] [(0, 1, (.r 0))], none⟩, ⟨none, .box t_spec_l1Cur 3 (.r 1), none⟩, ⟨some 5, .mov (.r 2), none⟩])
  (.seq (.region false [] [⟨none, .mov (.v 5), none⟩, ⟨none, .callm f_spec_l1Cur_walked [(.r 0)], none⟩, ⟨none, .mov (.r 1), none⟩, ⟨none, .extract (.r 2) 0, none⟩, ⟨none, .extract (.r 2) 1, none⟩, ⟨some 6, .alloc t_impl_Net [(.int .i64 0), (.nil false 3)], none⟩, ⟨none, .store 2 (.v 6) (.r 3), none⟩, ⟨some 7, .mov (.r 4), none⟩])
  (.seq (.region false [] [⟨none, .mov (.v 5), none⟩, ⟨none, .callm f_spec_l1Cur_budget [(.r 0)], none⟩, ⟨some 8, .mov (.r 1), none⟩])
  (.seq (.region true [(6, 0)] [⟨none, .load true 2 (.v 6), none⟩, ⟨none, .mov (.v 7), none⟩, ⟨none, .mov (.v 8), none⟩, ⟨none, .mov (.v 5), none⟩, ⟨none, .load true 2 (.v 6), none⟩, ⟨none, .mov (.v 7), none⟩, ⟨none, .callm f_spec_l1Cur_metMark [(.r 3), (.r 4), (.r 5)], none⟩, ⟨none, .store 2 (.v 1) (.r 0), none⟩, ⟨some 2, .mov (.r 1), none⟩, ⟨some 3, .mov (.r 2), none⟩, ⟨some 4, .mov (.r 6), none⟩])
  .ret))))),
  [.cell true 2 1, .v 2, .v 3, .v 4]⟩
def ir_spec_DrawIsHome : IFun := ⟨[0, 2, 3, 4, 5],
  (.seq (.region false [] [⟨some 1, .alloc t_impl_Net [(.int .i64 0), (.nil false 3)], none⟩, ⟨some 2, .nilrow t_int true 1, none⟩, ⟨some 3, .mov (.c (.int .i64 0)), none⟩, ⟨some 4, .nilrow t_int true 1, none⟩])
  (.seq (.region false [] [⟨none, .mov (.v 0), none⟩, ⟨none, .call false f_spec_DrawWayTo [(.r 0)], none⟩, ⟨none, .extract (.r 1) 0, none⟩, ⟨none, .extract (.r 1) 1, none⟩, ⟨none, .extract (.r 1) 2, none⟩, ⟨none, .extract (.r 1) 3, none⟩, ⟨none, .store 2 (.v 1) (.r 2), none⟩, ⟨some 2, .mov (.r 3), none⟩, ⟨some 3, .mov (.r 4), none⟩, ⟨some 4, .mov (.r 5), none⟩])
  .ret)),
  [.cell true 2 1, .v 2, .v 3, .v 4]⟩
def ir_impl_within : IFun := ⟨[0, 1, 2, 6],
  (.seq (.region false [] [⟨some 3, .mov (.c (.bool false)), none⟩])
  (.seq (.region false [] [⟨none, .mov (.v 0), none⟩, ⟨none, .mov (.v 1), none⟩, ⟨none, .bin false .geq (.r 0) (.r 1), none⟩, ⟨none, .mov (.r 2), none⟩, ⟨none, .mov (.v 0), some (3, true)⟩, ⟨none, .mov (.v 2), some (3, true)⟩, ⟨none, .bin false .leq (.r 4) (.r 5), some (3, true)⟩, ⟨none, .pick (.r 3) (.r 6) (.c (.bool false)), none⟩, ⟨some 3, .mov (.r 7), none⟩])
  .ret)),
  [.v 3]⟩
def ir_impl_increasing : IFun := ⟨[0, 2, 3, 7, 19],
  (.seq (.region false [] [⟨some 1, .mov (.c (.bool false)), none⟩])
  (.seq (.seq (.region false [] [⟨some 2, .mov (.c (.int .i64 1)), none⟩])
  (.block 0 (.loop [true, false, true, false, false] (.seq (.seq (.region false [] [⟨none, .mov (.v 2), none⟩, ⟨none, .mov (.v 0), none⟩, ⟨none, .len false (.r 1), none⟩, ⟨some 3, .bin false .lss (.r 0) (.r 2), none⟩])
  (.cond (.v 3) .skip (.exit 0)))
  (.seq (.block 1 (.seq (.region true [] [⟨none, .mov (.v 0), none⟩, ⟨none, .mov (.v 2), none⟩, ⟨none, .bin false .sub (.r 1) (.c (.int .i64 1)), none⟩, ⟨none, .iaddr 1 (.r 0) (.r 2), none⟩, ⟨none, .load false 1 (.r 3), none⟩, ⟨none, .mov (.v 0), none⟩, ⟨none, .mov (.v 2), none⟩, ⟨none, .iaddr 1 (.r 5) (.r 6), none⟩, ⟨none, .load false 1 (.r 7), none⟩, ⟨some 4, .bin false .geq (.r 4) (.r 8), none⟩])
  (.cond (.v 4) (.seq (.region false [] [⟨some 1, .mov (.c (.bool false)), none⟩])
  .ret) .skip)))
  (.region false [] [⟨none, .mov (.v 2), none⟩, ⟨none, .bin false .add (.r 0) (.c (.int .i64 1)), none⟩, ⟨some 2, .mov (.r 1), none⟩]))))))
  (.seq (.region false [] [⟨some 1, .mov (.c (.bool true)), none⟩])
  .ret))),
  [.v 1]⟩
def ir_impl_allWithin : IFun := ⟨[0, 1, 2, 6, 8, 9, 10, 11, 12, 19],
  (.seq (.region false [] [⟨some 3, .mov (.c (.bool false)), none⟩])
  (.seq (.seq (.region false [] [⟨some 5, .mov (.v 0), none⟩, ⟨some 6, .len false (.v 5), none⟩, ⟨some 7, .mov (.c (.int .i64 0)), none⟩])
  (.block 0 (.loop [false, true, true, false, false, true, true, true, false, false] (.seq (.region false [] [⟨some 8, .bin false .lss (.v 7) (.v 6), none⟩])
  (.seq (.cond (.v 8) .skip (.exit 0))
  (.seq (.block 1 (.seq (.region false [] [⟨none, .iaddr 1 (.v 5) (.v 7), none⟩, ⟨none, .load false 1 (.r 0), none⟩, ⟨some 4, .mov (.r 1), none⟩])
  (.seq (.region false [] [⟨none, .mov (.v 4), none⟩, ⟨none, .mov (.v 1), none⟩, ⟨none, .mov (.v 2), none⟩, ⟨none, .call false f_impl_within [(.r 0), (.r 1), (.r 2)], none⟩, ⟨some 9, .not (.r 3), none⟩])
  (.cond (.v 9) (.seq (.region false [] [⟨some 3, .mov (.c (.bool false)), none⟩])
  .ret) .skip))))
  (.region false [] [⟨none, .bin false .add (.v 7) (.c (.int .i64 1)), none⟩, ⟨some 7, .mov (.r 0), none⟩])))))))
  (.seq (.region false [] [⟨some 3, .mov (.c (.bool true)), none⟩])
  .ret))),
  [.v 3]⟩
def ir_impl_arePlaces : IFun := ⟨[0, 1, 2, 4],
  (.seq (.region false [] [⟨some 2, .box t_impl_Net 2 (.v 0), none⟩, ⟨some 3, .mov (.c (.bool false)), none⟩])
  (.seq (.region false [] [⟨none, .mov (.v 1), none⟩, ⟨none, .call false f_impl_increasing [(.r 0)], none⟩, ⟨none, .mov (.r 1), none⟩, ⟨none, .mov (.v 1), some (2, true)⟩, ⟨none, .faddr 0 (.v 2), some (2, true)⟩, ⟨none, .load false 1 (.r 4), some (2, true)⟩, ⟨none, .bin false .sub (.r 5) (.c (.int .i64 1)), some (2, true)⟩, ⟨none, .call false f_impl_allWithin [(.r 3), (.c (.int .i64 0)), (.r 6)], some (2, true)⟩, ⟨none, .pick (.r 2) (.r 7) (.c (.bool false)), none⟩, ⟨some 3, .mov (.r 8), none⟩])
  .ret)),
  [.v 3]⟩
def ir_impl_GoodNet_1 : IFun := ⟨[0, 1, 2, 3],
  (.seq (.region false [] [⟨some 2, .box t_impl_Trans 3 (.v 0), none⟩, ⟨some 3, .mov (.c (.bool false)), none⟩])
  (.seq (.region false [] [⟨none, .faddr 0 (.v 2), none⟩, ⟨none, .load false 1 (.r 0), none⟩, ⟨none, .len false (.r 1), none⟩, ⟨none, .bin false .eql (.r 2) (.c (.int .i64 0)), none⟩, ⟨none, .mov (.r 3), none⟩, ⟨none, .load true 2 (.v 1), some (4, false)⟩, ⟨none, .faddr 0 (.v 2), some (4, false)⟩, ⟨none, .load false 1 (.r 6), some (4, false)⟩, ⟨none, .call false f_impl_arePlaces [(.r 5), (.r 7)], some (4, false)⟩, ⟨none, .not (.r 8), some (4, false)⟩, ⟨none, .pick (.r 4) (.c (.bool true)) (.r 9), none⟩, ⟨none, .mov (.r 10), none⟩, ⟨none, .load true 2 (.v 1), some (11, false)⟩, ⟨none, .faddr 1 (.v 2), some (11, false)⟩, ⟨none, .load false 1 (.r 13), some (11, false)⟩, ⟨none, .call false f_impl_arePlaces [(.r 12), (.r 14)], some (11, false)⟩, ⟨none, .not (.r 15), some (11, false)⟩, ⟨none, .pick (.r 11) (.c (.bool true)) (.r 16), none⟩, ⟨none, .mov (.r 17), none⟩, ⟨none, .load true 2 (.v 1), some (18, false)⟩, ⟨none, .faddr 2 (.v 2), some (18, false)⟩, ⟨none, .load false 1 (.r 20), some (18, false)⟩, ⟨none, .call false f_impl_arePlaces [(.r 19), (.r 21)], some (18, false)⟩, ⟨none, .not (.r 22), some (18, false)⟩, ⟨none, .pick (.r 18) (.c (.bool true)) (.r 23), none⟩, ⟨some 3, .mov (.r 24), none⟩])
  .ret)),
  [.v 3]⟩
def ir_slices_IndexFunc_sl_impl_Trans_impl_Trans : IFun := ⟨[0, 1, 4, 5, 7, 8, 9, 16],
  (.seq (.region false [] [⟨some 2, .mov (.c (.int .i64 0)), none⟩])
  (.seq (.seq (.region false [] [⟨none, .mov (.v 0), none⟩, ⟨some 4, .len false (.r 0), none⟩, ⟨some 5, .mov (.c (.int .i64 0)), none⟩])
  (.block 0 (.loop [true, true, false, false, true, true, false, false] (.seq (.region false [] [⟨some 6, .bin false .lss (.v 5) (.v 4), none⟩])
  (.seq (.cond (.v 6) .skip (.exit 0))
  (.seq (.block 1 (.seq (.region false [] [⟨none, .mov (.v 5), none⟩, ⟨some 3, .mov (.r 0), none⟩])
  (.seq (.region false [] [⟨none, .mov (.v 1), none⟩, ⟨none, .mov (.v 0), none⟩, ⟨none, .mov (.v 3), none⟩, ⟨none, .iaddr 3 (.r 1) (.r 2), none⟩, ⟨none, .load true 3 (.r 3), none⟩, ⟨some 7, .callv false (.r 0) [(.r 4)], none⟩])
  (.cond (.v 7) (.seq (.region false [] [⟨none, .mov (.v 3), none⟩, ⟨some 2, .mov (.r 0), none⟩])
  .ret) .skip))))
  (.region false [] [⟨none, .bin false .add (.v 5) (.c (.int .i64 1)), none⟩, ⟨some 5, .mov (.r 0), none⟩])))))))
  (.seq (.region false [] [⟨some 2, .mov (.c (.int .i64 (-1))), none⟩])
  .ret))),
  [.v 2]⟩
def ir_slices_ContainsFunc_sl_impl_Trans_impl_Trans : IFun := ⟨[0, 1, 4],
  (.seq (.region false [] [⟨some 2, .mov (.c (.bool false)), none⟩])
  (.seq (.region false [] [⟨none, .mov (.v 0), none⟩, ⟨none, .mov (.v 1), none⟩, ⟨none, .call false f_slices_IndexFunc_sl_impl_Trans_impl_Trans [(.r 0), (.r 1)], none⟩, ⟨none, .bin false .geq (.r 2) (.c (.int .i64 0)), none⟩, ⟨some 2, .mov (.r 3), none⟩])
  .ret)),
  [.v 2]⟩
def ir_impl_GoodNet : IFun := ⟨[0, 1, 2],
  (.seq (.region false [] [⟨some 1, .box t_impl_Net 2 (.v 0), none⟩, ⟨some 2, .mov (.c (.bool false)), none⟩])
  (.seq (.region false [] [⟨none, .faddr 0 (.v 1), none⟩, ⟨none, .load false 1 (.r 0), none⟩, ⟨none, .call false f_impl_within [(.r 1), (.c (.int .i64 1)), (.c (.int .i64 16))], none⟩, ⟨none, .mov (.r 2), none⟩, ⟨none, .faddr 1 (.v 1), some (3, true)⟩, ⟨none, .load false 1 (.r 4), some (3, true)⟩, ⟨none, .len false (.r 5), some (3, true)⟩, ⟨none, .bin false .leq (.r 6) (.c (.int .i64 24)), some (3, true)⟩, ⟨none, .pick (.r 3) (.r 7) (.c (.bool false)), none⟩, ⟨none, .mov (.r 8), none⟩, ⟨none, .faddr 1 (.v 1), some (9, true)⟩, ⟨none, .load false 1 (.r 10), some (9, true)⟩, ⟨none, .mkfn f_impl_GoodNet_1 [(.v 1)], some (9, true)⟩, ⟨none, .call false f_slices_ContainsFunc_sl_impl_Trans_impl_Trans [(.r 11), (.r 12)], some (9, true)⟩, ⟨none, .not (.r 13), some (9, true)⟩, ⟨none, .pick (.r 9) (.r 14) (.c (.bool false)), none⟩, ⟨some 2, .mov (.r 15), none⟩])
  .ret)),
  [.v 2]⟩
def ir_impl_GoodMark : IFun := ⟨[0, 1, 4],
  (.seq (.region false [] [⟨some 2, .mov (.c (.bool false)), none⟩])
  (.seq (.region false [] [⟨none, .mov (.v 0), none⟩, ⟨none, .call false f_impl_within [(.r 0), (.c (.int .i64 1)), (.c (.int .i64 16))], none⟩, ⟨none, .mov (.r 1), none⟩, ⟨none, .mov (.v 1), some (2, true)⟩, ⟨none, .len false (.r 3), some (2, true)⟩, ⟨none, .mov (.v 0), some (2, true)⟩, ⟨none, .bin false .eql (.r 4) (.r 5), some (2, true)⟩, ⟨none, .pick (.r 2) (.r 6) (.c (.bool false)), none⟩, ⟨none, .mov (.r 7), none⟩, ⟨none, .mov (.v 1), some (8, true)⟩, ⟨none, .call false f_impl_allWithin [(.r 9), (.c (.int .i64 0)), (.c (.int .i64 50))], some (8, true)⟩, ⟨none, .pick (.r 8) (.r 10) (.c (.bool false)), none⟩, ⟨some 2, .mov (.r 11), none⟩])
  .ret)),
  [.v 2]⟩
def ir_impl_isMarked : IFun := ⟨[0, 1, 2, 4],
  (.seq (.region false [] [⟨some 2, .box t_impl_Net 2 (.v 0), none⟩, ⟨some 3, .mov (.c (.bool false)), none⟩])
  (.seq (.region false [] [⟨none, .load true 2 (.v 2), none⟩, ⟨none, .call false f_impl_GoodNet [(.r 0)], none⟩, ⟨none, .mov (.r 1), none⟩, ⟨none, .faddr 0 (.v 2), some (2, true)⟩, ⟨none, .load false 1 (.r 3), some (2, true)⟩, ⟨none, .mov (.v 1), some (2, true)⟩, ⟨none, .call false f_impl_GoodMark [(.r 4), (.r 5)], some (2, true)⟩, ⟨none, .pick (.r 2) (.r 6) (.c (.bool false)), none⟩, ⟨some 3, .mov (.r 7), none⟩])
  .ret)),
  [.v 3]⟩
def ir_impl_isEnabled_1 : IFun := ⟨[0, 1, 3],
  (.seq (.region false [] [⟨some 2, .mov (.c (.bool false)), none⟩])
  (.seq (.region false [] [⟨none, .load false 1 (.v 1), none⟩, ⟨none, .mov (.v 0), none⟩, ⟨none, .iaddr 1 (.r 0) (.r 1), none⟩, ⟨none, .load false 1 (.r 2), none⟩, ⟨none, .bin false .eql (.r 3) (.c (.int .i64 0)), none⟩, ⟨some 2, .mov (.r 4), none⟩])
  .ret)),
  [.v 2]⟩
def ir_slices_IndexFunc_sl_int_int : IFun := ⟨[0, 1, 4, 5, 7, 8, 9, 16],
  (.seq (.region false [] [⟨some 2, .mov (.c (.int .i64 0)), none⟩])
  (.seq (.seq (.region false [] [⟨none, .mov (.v 0), none⟩, ⟨some 4, .len false (.r 0), none⟩, ⟨some 5, .mov (.c (.int .i64 0)), none⟩])
  (.block 0 (.loop [true, true, false, false, true, true, false, false] (.seq (.region false [] [⟨some 6, .bin false .lss (.v 5) (.v 4), none⟩])
  (.seq (.cond (.v 6) .skip (.exit 0))
  (.seq (.block 1 (.seq (.region false [] [⟨none, .mov (.v 5), none⟩, ⟨some 3, .mov (.r 0), none⟩])
  (.seq (.region false [] [⟨none, .mov (.v 1), none⟩, ⟨none, .mov (.v 0), none⟩, ⟨none, .mov (.v 3), none⟩, ⟨none, .iaddr 1 (.r 1) (.r 2), none⟩, ⟨none, .load false 1 (.r 3), none⟩, ⟨some 7, .callv false (.r 0) [(.r 4)], none⟩])
  (.cond (.v 7) (.seq (.region false [] [⟨none, .mov (.v 3), none⟩, ⟨some 2, .mov (.r 0), none⟩])
  .ret) .skip))))
  (.region false [] [⟨none, .bin false .add (.v 5) (.c (.int .i64 1)), none⟩, ⟨some 5, .mov (.r 0), none⟩])))))))
  (.seq (.region false [] [⟨some 2, .mov (.c (.int .i64 (-1))), none⟩])
  .ret))),
  [.v 2]⟩
def ir_slices_ContainsFunc_sl_int_int : IFun := ⟨[0, 1, 4],
  (.seq (.region false [] [⟨some 2, .mov (.c (.bool false)), none⟩])
  (.seq (.region false [] [⟨none, .mov (.v 0), none⟩, ⟨none, .mov (.v 1), none⟩, ⟨none, .call false f_slices_IndexFunc_sl_int_int [(.r 0), (.r 1)], none⟩, ⟨none, .bin false .geq (.r 2) (.c (.int .i64 0)), none⟩, ⟨some 2, .mov (.r 3), none⟩])
  .ret)),
  [.v 2]⟩
def ir_impl_isEnabled : IFun := ⟨[0, 1, 2, 3, 4],
  (.seq (.region false [] [⟨some 2, .box t_impl_Trans 3 (.v 0), none⟩, ⟨some 3, .box t_sl_int 1 (.v 1), none⟩, ⟨some 4, .mov (.c (.bool false)), none⟩])
  (.seq (.region false [] [⟨none, .faddr 0 (.v 2), none⟩, ⟨none, .load false 1 (.r 0), none⟩, ⟨none, .mkfn f_impl_isEnabled_1 [(.v 3)], none⟩, ⟨none, .call false f_slices_ContainsFunc_sl_int_int [(.r 1), (.r 2)], none⟩, ⟨none, .not (.r 3), none⟩, ⟨some 4, .mov (.r 4), none⟩])
  .ret)),
  [.v 4]⟩
def ir_impl_enabled : IFun := ⟨[0, 1, 2, 4, 5, 6, 7, 9, 10, 11, 12, 18],
  (.seq (.region false [] [⟨some 2, .box t_impl_Net 2 (.v 0), none⟩, ⟨some 3, .nilrow t_int true 1, none⟩])
  (.seq (.region false [] [⟨some 4, .nilrow t_int true 1, none⟩])
  (.seq (.seq (.region false [] [⟨none, .faddr 1 (.v 2), none⟩, ⟨some 7, .load false 1 (.r 0), none⟩, ⟨some 8, .len false (.v 7), none⟩, ⟨some 9, .mov (.c (.int .i64 0)), none⟩])
  (.block 0 (.loop [false, true, false, false, true, false, false, true, true, true, false, false] (.seq (.region false [] [⟨some 10, .bin false .lss (.v 9) (.v 8), none⟩])
  (.seq (.cond (.v 10) .skip (.exit 0))
  (.seq (.block 1 (.seq (.region false [] [⟨none, .mov (.v 9), none⟩, ⟨none, .iaddr 3 (.v 7) (.v 9), none⟩, ⟨none, .load true 3 (.r 1), none⟩, ⟨some 6, .alloc t_impl_Trans [(.nil true 1), (.nil true 1), (.nil true 1)], none⟩, ⟨some 5, .mov (.r 0), none⟩, ⟨none, .store 3 (.v 6) (.r 2), none⟩])
  (.seq (.region false [] [⟨none, .load true 3 (.v 6), none⟩, ⟨none, .mov (.v 1), none⟩, ⟨some 11, .call false f_impl_isEnabled [(.r 0), (.r 1)], none⟩])
  (.cond (.v 11) (.region false [] [⟨none, .mov (.v 4), none⟩, ⟨none, .mov (.v 5), none⟩, ⟨none, .bslice false t_int true 1 [(.r 1)], none⟩, ⟨none, .append t_int true 1 (.r 0) (.r 2), none⟩, ⟨some 4, .mov (.r 3), none⟩]) .skip))))
  (.region false [] [⟨none, .bin false .add (.v 9) (.c (.int .i64 1)), none⟩, ⟨some 9, .mov (.r 0), none⟩])))))))
  (.seq (.region false [] [⟨none, .mov (.v 4), none⟩, ⟨some 3, .mov (.r 0), none⟩])
  .ret)))),
  [.v 3]⟩
def ir_impl_fired : IFun := ⟨[0, 1, 2, 4, 5, 7, 9, 11, 15, 16, 17, 18, 29, 30, 31, 32, 40, 41, 42, 43],
  (.seq (.region false [] [⟨some 2, .box t_impl_Trans 3 (.v 0), none⟩, ⟨some 3, .nilrow t_int true 1, none⟩])
  (.seq (.region false [] [⟨none, .mov (.v 1), none⟩, ⟨none, .call false f_slices_Clone_sl_int_int [(.r 0)], none⟩, ⟨some 4, .mov (.r 1), none⟩])
  (.seq (.seq (.region false [] [⟨none, .faddr 0 (.v 2), none⟩, ⟨some 8, .load false 1 (.r 0), none⟩, ⟨some 9, .len false (.v 8), none⟩, ⟨some 10, .mov (.c (.int .i64 0)), none⟩])
  (.block 0 (.loop [false, false, true, false, true, false, false, false, true, true, true, false, false, false, false, false, false, false, false, false] (.seq (.region false [] [⟨some 11, .bin false .lss (.v 10) (.v 9), none⟩])
  (.seq (.cond (.v 11) .skip (.exit 0))
  (.seq (.block 1 (.seq (.region false [] [⟨none, .iaddr 1 (.v 8) (.v 10), none⟩, ⟨none, .load false 1 (.r 0), none⟩, ⟨some 5, .mov (.r 1), none⟩])
  (.region false [] [⟨none, .mov (.v 4), none⟩, ⟨none, .mov (.v 5), none⟩, ⟨none, .iaddr 1 (.r 0) (.r 1), none⟩, ⟨none, .load false 1 (.r 2), none⟩, ⟨none, .bin false .sub (.r 3) (.c (.int .i64 1)), none⟩, ⟨none, .iaddr 1 (.r 0) (.r 1), none⟩, ⟨none, .store 1 (.r 5) (.r 4), none⟩])))
  (.region false [] [⟨none, .bin false .add (.v 10) (.c (.int .i64 1)), none⟩, ⟨some 10, .mov (.r 0), none⟩])))))))
  (.seq (.seq (.region false [] [⟨none, .faddr 2 (.v 2), none⟩, ⟨some 12, .load false 1 (.r 0), none⟩, ⟨some 13, .len false (.v 12), none⟩, ⟨some 14, .mov (.c (.int .i64 0)), none⟩])
  (.block 2 (.loop [false, false, true, false, true, false, false, false, false, false, false, false, true, true, true, false, false, false, false, false] (.seq (.region false [] [⟨some 15, .bin false .lss (.v 14) (.v 13), none⟩])
  (.seq (.cond (.v 15) .skip (.exit 2))
  (.seq (.block 3 (.seq (.region false [] [⟨none, .iaddr 1 (.v 12) (.v 14), none⟩, ⟨none, .load false 1 (.r 0), none⟩, ⟨some 6, .mov (.r 1), none⟩])
  (.region false [] [⟨none, .mov (.v 4), none⟩, ⟨none, .mov (.v 6), none⟩, ⟨none, .iaddr 1 (.r 0) (.r 1), none⟩, ⟨none, .store 1 (.r 2) (.c (.int .i64 0)), none⟩])))
  (.region false [] [⟨none, .bin false .add (.v 14) (.c (.int .i64 1)), none⟩, ⟨some 14, .mov (.r 0), none⟩])))))))
  (.seq (.seq (.region false [] [⟨none, .faddr 1 (.v 2), none⟩, ⟨some 16, .load false 1 (.r 0), none⟩, ⟨some 17, .len false (.v 16), none⟩, ⟨some 18, .mov (.c (.int .i64 0)), none⟩])
  (.block 4 (.loop [false, false, false, false, true, false, false, false, false, false, false, false, false, false, false, false, true, true, true, false] (.seq (.region false [] [⟨some 19, .bin false .lss (.v 18) (.v 17), none⟩])
  (.seq (.cond (.v 19) .skip (.exit 4))
  (.seq (.block 5 (.seq (.region false [] [⟨none, .iaddr 1 (.v 16) (.v 18), none⟩, ⟨none, .load false 1 (.r 0), none⟩, ⟨some 7, .mov (.r 1), none⟩])
  (.region false [] [⟨none, .mov (.v 4), none⟩, ⟨none, .mov (.v 7), none⟩, ⟨none, .iaddr 1 (.r 0) (.r 1), none⟩, ⟨none, .load false 1 (.r 2), none⟩, ⟨none, .bin false .add (.r 3) (.c (.int .i64 1)), none⟩, ⟨none, .iaddr 1 (.r 0) (.r 1), none⟩, ⟨none, .store 1 (.r 5) (.r 4), none⟩])))
  (.region false [] [⟨none, .bin false .add (.v 18) (.c (.int .i64 1)), none⟩, ⟨some 18, .mov (.r 0), none⟩])))))))
  (.seq (.region false [] [⟨none, .mov (.v 4), none⟩, ⟨some 3, .mov (.r 0), none⟩])
  .ret)))))),
  [.v 3]⟩
def ir_slices_Equal_sl_int_int : IFun := ⟨[0, 1, 4, 5, 10, 12, 13, 14, 24],
  (.seq (.region false [] [⟨some 2, .mov (.c (.bool false)), none⟩])
  (.seq (.seq (.region false [] [⟨none, .mov (.v 0), none⟩, ⟨none, .len false (.r 0), none⟩, ⟨none, .mov (.v 1), none⟩, ⟨none, .len false (.r 2), none⟩, ⟨some 4, .bin false .neq (.r 1) (.r 3), none⟩])
  (.cond (.v 4) (.seq (.region false [] [⟨some 2, .mov (.c (.bool false)), none⟩])
  .ret) .skip))
  (.seq (.seq (.region false [] [⟨none, .mov (.v 0), none⟩, ⟨some 5, .len false (.r 0), none⟩, ⟨some 6, .mov (.c (.int .i64 0)), none⟩])
  (.block 0 (.loop [true, true, false, false, false, true, true, false, false] (.seq (.region false [] [⟨some 7, .bin false .lss (.v 6) (.v 5), none⟩])
  (.seq (.cond (.v 7) .skip (.exit 0))
  (.seq (.block 1 (.seq (.region false [] [⟨none, .mov (.v 6), none⟩, ⟨some 3, .mov (.r 0), none⟩])
  (.seq (.region true [] [⟨none, .mov (.v 0), none⟩, ⟨none, .mov (.v 3), none⟩, ⟨none, .iaddr 1 (.r 0) (.r 1), none⟩, ⟨none, .load false 1 (.r 2), none⟩, ⟨none, .mov (.v 1), none⟩, ⟨none, .mov (.v 3), none⟩, ⟨none, .iaddr 1 (.r 4) (.r 5), none⟩, ⟨none, .load false 1 (.r 6), none⟩, ⟨some 8, .bin false .neq (.r 3) (.r 7), none⟩])
  (.cond (.v 8) (.seq (.region false [] [⟨some 2, .mov (.c (.bool false)), none⟩])
  .ret) .skip))))
  (.region false [] [⟨none, .bin false .add (.v 6) (.c (.int .i64 1)), none⟩, ⟨some 6, .mov (.r 0), none⟩])))))))
  (.seq (.region false [] [⟨some 2, .mov (.c (.bool true)), none⟩])
  .ret)))),
  [.v 2]⟩
def ir_impl_Space_find_1 : IFun := ⟨[0, 1, 3],
  (.seq (.region false [] [⟨some 2, .mov (.c (.bool false)), none⟩])
  (.seq (.region false [] [⟨none, .mov (.v 0), none⟩, ⟨none, .load false 1 (.v 1), none⟩, ⟨none, .call false f_slices_Equal_sl_int_int [(.r 0), (.r 1)], none⟩, ⟨some 2, .mov (.r 2), none⟩])
  .ret)),
  [.v 2]⟩
def ir_slices_IndexFunc_sl_sl_int_sl_int : IFun := ⟨[0, 1, 4, 5, 7, 8, 9, 16],
  (.seq (.region false [] [⟨some 2, .mov (.c (.int .i64 0)), none⟩])
  (.seq (.seq (.region false [] [⟨none, .mov (.v 0), none⟩, ⟨some 4, .len false (.r 0), none⟩, ⟨some 5, .mov (.c (.int .i64 0)), none⟩])
  (.block 0 (.loop [true, true, false, false, true, true, false, false] (.seq (.region false [] [⟨some 6, .bin false .lss (.v 5) (.v 4), none⟩])
  (.seq (.cond (.v 6) .skip (.exit 0))
  (.seq (.block 1 (.seq (.region false [] [⟨none, .mov (.v 5), none⟩, ⟨some 3, .mov (.r 0), none⟩])
  (.seq (.region false [] [⟨none, .mov (.v 1), none⟩, ⟨none, .mov (.v 0), none⟩, ⟨none, .mov (.v 3), none⟩, ⟨none, .iaddr 1 (.r 1) (.r 2), none⟩, ⟨none, .load false 1 (.r 3), none⟩, ⟨some 7, .callv false (.r 0) [(.r 4)], none⟩])
  (.cond (.v 7) (.seq (.region false [] [⟨none, .mov (.v 3), none⟩, ⟨some 2, .mov (.r 0), none⟩])
  .ret) .skip))))
  (.region false [] [⟨none, .bin false .add (.v 5) (.c (.int .i64 1)), none⟩, ⟨some 5, .mov (.r 0), none⟩])))))))
  (.seq (.region false [] [⟨some 2, .mov (.c (.int .i64 (-1))), none⟩])
  .ret))),
  [.v 2]⟩
def ir_impl_Space_find : IFun := ⟨[0, 1, 2, 3, 4],
  (.seq (.region false [] [⟨some 2, .box t_impl_Space 2 (.v 0), none⟩, ⟨some 3, .box t_sl_int 1 (.v 1), none⟩, ⟨some 4, .mov (.c (.int .i64 0)), none⟩])
  (.seq (.region false [] [⟨none, .faddr 0 (.v 2), none⟩, ⟨none, .load false 1 (.r 0), none⟩, ⟨none, .mkfn f_impl_Space_find_1 [(.v 3)], none⟩, ⟨none, .call false f_slices_IndexFunc_sl_sl_int_sl_int [(.r 1), (.r 2)], none⟩, ⟨some 4, .mov (.r 3), none⟩])
  .ret)),
  [.v 4]⟩
def ir_impl_explore : IFun := ⟨[0, 1, 2, 3, 6, 7, 8, 9, 11, 12, 13, 22, 31, 32, 33, 34, 50, 56, 61],
  (.seq (.region false [] [⟨some 3, .box t_impl_Net 2 (.v 0), none⟩, ⟨some 4, .alloc t_impl_Space [(.nil false 1), (.nil true 3)], none⟩, ⟨some 5, .mov (.c (.int .i64 0)), none⟩])
  (.seq (.region false [] [⟨none, .mov (.v 1), none⟩, ⟨none, .call false f_slices_Clone_sl_int_int [(.r 0)], none⟩, ⟨none, .bslice false t_sl_int false 1 [(.r 1)], none⟩, ⟨none, .build [(.nil false 1), (.nil true 3)] [(0, 1, (.r 2))], none⟩, ⟨some 6, .alloc t_impl_Space [(.nil false 1), (.nil true 3)], none⟩, ⟨none, .store 2 (.v 6) (.r 3), none⟩])
  (.seq (.seq (.region false [] [⟨some 7, .mov (.c (.int .i64 0)), none⟩])
  (.block 0 (.loop [false, false, true, true, true, false, true, true, false, false, false, false, false, false, false, false, false, false, false] (.seq (.seq (.region false [] [⟨none, .mov (.v 7), none⟩, ⟨none, .faddr 0 (.v 6), none⟩, ⟨none, .load false 1 (.r 1), none⟩, ⟨none, .len false (.r 2), none⟩, ⟨some 11, .bin false .lss (.r 0) (.r 3), none⟩])
  (.cond (.v 11) .skip (.exit 0)))
  (.seq (.block 1 (.seq (.region true [] [⟨none, .load true 2 (.v 3), none⟩, ⟨none, .faddr 0 (.v 6), none⟩, ⟨none, .load false 1 (.r 1), none⟩, ⟨none, .mov (.v 7), none⟩, ⟨none, .iaddr 1 (.r 2) (.r 3), none⟩, ⟨none, .load false 1 (.r 4), none⟩, ⟨some 14, .mov (.c (.int .i64 0)), none⟩, ⟨some 12, .call false f_impl_enabled [(.r 0), (.r 5)], none⟩, ⟨some 13, .len false (.v 12), none⟩])
  (.block 2 (.loop [false, false, true, true, true, false, true, true, false, false, false, false, true, true, true, false, false, false, false] (.seq (.region false [] [⟨some 15, .bin false .lss (.v 14) (.v 13), none⟩])
  (.seq (.cond (.v 15) .skip (.exit 2))
  (.seq (.block 3 (.seq (.region false [] [⟨none, .iaddr 1 (.v 12) (.v 14), none⟩, ⟨none, .load false 1 (.r 0), none⟩, ⟨some 8, .mov (.r 1), none⟩])
  (.seq (.region true [] [⟨none, .faddr 1 (.v 3), none⟩, ⟨none, .load false 1 (.r 0), none⟩, ⟨none, .mov (.v 8), none⟩, ⟨none, .iaddr 3 (.r 1) (.r 2), none⟩, ⟨none, .load true 3 (.r 3), none⟩, ⟨none, .faddr 0 (.v 6), none⟩, ⟨none, .load false 1 (.r 5), none⟩, ⟨none, .mov (.v 7), none⟩, ⟨none, .iaddr 1 (.r 6) (.r 7), none⟩, ⟨none, .load false 1 (.r 8), none⟩, ⟨none, .call false f_impl_fired [(.r 4), (.r 9)], none⟩, ⟨some 9, .mov (.r 10), none⟩])
  (.seq (.seq (.region false [] [⟨none, .mov (.v 9), none⟩, ⟨none, .call false f_impl_allWithin [(.r 0), (.c (.int .i64 0)), (.c (.int .i64 50))], none⟩, ⟨some 16, .not (.r 1), none⟩])
  (.cond (.v 16) (.seq (.region false [] [⟨none, .build [(.nil false 1), (.nil true 3)] [], none⟩, ⟨none, .store 2 (.v 4) (.r 0), none⟩, ⟨some 5, .mov (.c (.int .i64 3)), none⟩])
  .ret) .skip))
  (.seq (.region false [] [⟨none, .load true 2 (.v 6), none⟩, ⟨none, .mov (.v 9), none⟩, ⟨none, .call false f_impl_Space_find [(.r 0), (.r 1)], none⟩, ⟨some 10, .mov (.r 2), none⟩])
  (.seq (.seq (.region false [] [⟨none, .mov (.v 10), none⟩, ⟨some 17, .bin false .lss (.r 0) (.c (.int .i64 0)), none⟩])
  (.cond (.v 17) (.seq (.seq (.region false [] [⟨none, .faddr 0 (.v 6), none⟩, ⟨none, .load false 1 (.r 0), none⟩, ⟨none, .len false (.r 1), none⟩, ⟨none, .mov (.v 2), none⟩, ⟨some 18, .bin false .geq (.r 2) (.r 3), none⟩])
  (.cond (.v 18) (.seq (.region false [] [⟨none, .build [(.nil false 1), (.nil true 3)] [], none⟩, ⟨none, .store 2 (.v 4) (.r 0), none⟩, ⟨some 5, .mov (.c (.int .i64 2)), none⟩])
  .ret) .skip))
  (.seq (.region false [] [⟨none, .faddr 0 (.v 6), none⟩, ⟨none, .load false 1 (.r 0), none⟩, ⟨none, .len false (.r 1), none⟩, ⟨some 10, .mov (.r 2), none⟩])
  (.region false [] [⟨none, .faddr 0 (.v 6), none⟩, ⟨none, .load false 1 (.r 0), none⟩, ⟨none, .mov (.v 9), none⟩, ⟨none, .bslice false t_sl_int false 1 [(.r 2)], none⟩, ⟨none, .append t_sl_int false 1 (.r 1) (.r 3), none⟩, ⟨none, .faddr 0 (.v 6), none⟩, ⟨none, .store 1 (.r 5) (.r 4), none⟩]))) .skip))
  (.region false [] [⟨none, .faddr 1 (.v 6), none⟩, ⟨none, .load false 1 (.r 0), none⟩, ⟨none, .mov (.v 7), none⟩, ⟨none, .mov (.v 8), none⟩, ⟨none, .mov (.v 10), none⟩, ⟨none, .build [(.int .i64 0), (.int .i64 0), (.int .i64 0)] [(0, 1, (.r 2)), (1, 1, (.r 3)), (2, 1, (.r 4))], none⟩, ⟨none, .bslice false t_impl_Arc true 3 [(.r 5)], none⟩, ⟨none, .append t_impl_Arc true 3 (.r 1) (.r 6), none⟩, ⟨none, .faddr 1 (.v 6), none⟩, ⟨none, .store 1 (.r 8) (.r 7), none⟩])))))))
  (.region false [] [⟨none, .bin false .add (.v 14) (.c (.int .i64 1)), none⟩, ⟨some 14, .mov (.r 0), none⟩]))))))))
  (.region false [] [⟨none, .mov (.v 7), none⟩, ⟨none, .bin false .add (.r 0) (.c (.int .i64 1)), none⟩, ⟨some 7, .mov (.r 1), none⟩]))))))
  (.seq (.region false [] [⟨none, .load true 2 (.v 6), none⟩, ⟨none, .store 2 (.v 4) (.r 0), none⟩, ⟨some 5, .mov (.c (.int .i64 1)), none⟩])
  .ret)))),
  [.cell true 2 4, .v 5]⟩
def ir_impl_Explore : IFun := ⟨[0, 1, 2, 3, 6, 7, 8, 9, 10, 19],
  (.seq (.region false [] [⟨some 3, .box t_impl_Net 2 (.v 0), none⟩, ⟨some 4, .alloc t_impl_Space [(.nil false 1), (.nil true 3)], none⟩, ⟨some 5, .mov (.c (.int .i64 0)), none⟩, ⟨some 6, .mov (.c (.bool false)), none⟩])
  (.seq (.seq (.region false [] [⟨none, .load true 2 (.v 3), none⟩, ⟨none, .mov (.v 1), none⟩, ⟨none, .call false f_impl_isMarked [(.r 0), (.r 1)], none⟩, ⟨none, .not (.r 2), none⟩, ⟨none, .mov (.r 3), none⟩, ⟨none, .mov (.v 2), some (4, false)⟩, ⟨none, .call false f_impl_within [(.r 5), (.c (.int .i64 1)), (.c (.int .i64 400))], some (4, false)⟩, ⟨none, .not (.r 6), some (4, false)⟩, ⟨some 9, .pick (.r 4) (.c (.bool true)) (.r 7), none⟩])
  (.cond (.v 9) (.seq (.region false [] [⟨none, .build [(.nil false 1), (.nil true 3)] [], none⟩, ⟨none, .store 2 (.v 4) (.r 0), none⟩, ⟨some 5, .mov (.c (.int .i64 0)), none⟩, ⟨some 6, .mov (.c (.bool false)), none⟩])
  .ret) .skip))
  (.seq (.region false [] [⟨none, .load true 2 (.v 3), none⟩, ⟨none, .mov (.v 1), none⟩, ⟨none, .mov (.v 2), none⟩, ⟨none, .call false f_impl_explore [(.r 0), (.r 1), (.r 2)], none⟩, ⟨none, .mov (.r 3), none⟩, ⟨none, .extract (.r 4) 0, none⟩, ⟨none, .extract (.r 4) 1, none⟩, ⟨some 7, .alloc t_impl_Space [(.nil false 1), (.nil true 3)], none⟩, ⟨none, .store 2 (.v 7) (.r 5), none⟩, ⟨some 8, .mov (.r 6), none⟩])
  (.seq (.region false [] [⟨none, .load true 2 (.v 7), none⟩, ⟨none, .mov (.v 8), none⟩, ⟨none, .store 2 (.v 4) (.r 0), none⟩, ⟨some 5, .mov (.r 1), none⟩, ⟨some 6, .mov (.c (.bool true)), none⟩])
  .ret)))),
  [.cell true 2 4, .v 5, .v 6]⟩
def ir_impl_wholeSpace : IFun := ⟨[0, 1, 2, 3, 6, 7, 8, 9, 10],
  (.seq (.region false [] [⟨some 3, .box t_impl_Net 2 (.v 0), none⟩, ⟨some 4, .alloc t_impl_Space [(.nil false 1), (.nil true 3)], none⟩, ⟨some 5, .mov (.c (.bool false)), none⟩])
  (.seq (.region false [] [⟨none, .load true 2 (.v 3), none⟩, ⟨none, .mov (.v 1), none⟩, ⟨none, .mov (.v 2), none⟩, ⟨none, .call false f_impl_Explore [(.r 0), (.r 1), (.r 2)], none⟩, ⟨none, .mov (.r 3), none⟩, ⟨none, .extract (.r 4) 0, none⟩, ⟨none, .extract (.r 4) 1, none⟩, ⟨none, .extract (.r 4) 2, none⟩, ⟨some 6, .alloc t_impl_Space [(.nil false 1), (.nil true 3)], none⟩, ⟨none, .store 2 (.v 6) (.r 5), none⟩, ⟨some 7, .mov (.r 6), none⟩, ⟨some 8, .mov (.r 7), none⟩])
  (.seq (.region false [] [⟨none, .load true 2 (.v 6), none⟩, ⟨none, .mov (.v 8), none⟩, ⟨none, .mov (.r 1), none⟩, ⟨none, .mov (.v 7), some (2, true)⟩, ⟨none, .bin false .eql (.r 3) (.c (.int .i64 1)), some (2, true)⟩, ⟨none, .pick (.r 2) (.r 4) (.c (.bool false)), none⟩, ⟨none, .store 2 (.v 4) (.r 0), none⟩, ⟨some 5, .mov (.r 5), none⟩])
  .ret))),
  [.cell true 2 4, .v 5]⟩
def ir_impl_Space_leadingTo : IFun := ⟨[0, 1, 2, 4, 5, 6, 8, 9, 11, 12, 14, 24, 25, 26, 27, 46, 47, 48, 49, 59, 68, 69, 70, 71, 78],
  (.seq (.region false [] [⟨some 2, .box t_impl_Space 2 (.v 0), none⟩, ⟨some 3, .nilrow t_bool true 1, none⟩])
  (.seq (.region false [] [⟨none, .faddr 0 (.v 2), none⟩, ⟨none, .load false 1 (.r 0), none⟩, ⟨none, .len false (.r 1), none⟩, ⟨none, .mk t_bool true 1 (.bool false) (.r 2), none⟩, ⟨some 4, .mov (.r 3), none⟩])
  (.seq (.region false [] [⟨none, .faddr 0 (.v 2), none⟩, ⟨none, .load false 1 (.r 0), none⟩, ⟨none, .len false (.r 1), none⟩, ⟨none, .mkl t_sl_int 1 (.nil true 1) (.r 2), none⟩, ⟨some 5, .mov (.r 3), none⟩])
  (.seq (.seq (.region false [] [⟨none, .faddr 1 (.v 2), none⟩, ⟨some 11, .ldf (.r 0), none⟩, ⟨some 12, .len false (.v 11), none⟩, ⟨some 13, .mov (.c (.int .i64 0)), none⟩])
  (.block 0 (.loop [false, true, false, false, true, true, false, false, false, false, false, true, true, true, false, false, false, false, false, false, false, false, false, false, false] (.seq (.region false [] [⟨some 14, .bin false .lss (.v 13) (.v 12), none⟩])
  (.seq (.cond (.v 14) .skip (.exit 0))
  (.seq (.block 1 (.seq (.region false [] [⟨none, .iaddr 3 (.v 11) (.v 13), none⟩, ⟨none, .load true 3 (.r 0), none⟩, ⟨some 6, .alloc t_impl_Arc [(.int .i64 0), (.int .i64 0), (.int .i64 0)], none⟩, ⟨none, .stl 3 (.v 6) (.r 1), none⟩])
  (.region true [(10, 2), (10, 8), (11, 2)] [⟨none, .mov (.v 5), none⟩, ⟨none, .faddr 2 (.v 6), none⟩, ⟨none, .load false 1 (.r 1), none⟩, ⟨none, .mov (.v 5), none⟩, ⟨none, .faddr 2 (.v 6), none⟩, ⟨none, .load false 1 (.r 4), none⟩, ⟨none, .iaddr 1 (.r 3) (.r 5), none⟩, ⟨none, .faddr 0 (.v 6), none⟩, ⟨none, .load false 1 (.r 7), none⟩, ⟨none, .bslice true t_int true 1 [(.r 8)], none⟩, ⟨none, .ldt t_int (.r 6), none⟩, ⟨none, .apq t_int 1 (.r 10) (.r 9), none⟩, ⟨none, .iaddr 1 (.r 0) (.r 2), none⟩, ⟨none, .stl 1 (.r 12) (.r 11), none⟩])))
  (.region false [] [⟨none, .bin false .add (.v 13) (.c (.int .i64 1)), none⟩, ⟨some 13, .mov (.r 0), none⟩])))))))
  (.seq (.region false [] [⟨none, .mov (.v 1), none⟩, ⟨none, .call false f_slices_Clone_sl_int_int [(.r 0)], none⟩, ⟨some 7, .mov (.r 1), none⟩])
  (.seq (.seq (.region false [] [⟨some 15, .mov (.v 1), none⟩, ⟨some 16, .len false (.v 15), none⟩, ⟨some 17, .mov (.c (.int .i64 0)), none⟩])
  (.block 2 (.loop [false, false, false, false, true, true, false, true, false, false, false, false, false, false, false, true, true, true, false, false, false, false, false, false, false] (.seq (.region false [] [⟨some 18, .bin false .lss (.v 17) (.v 16), none⟩])
  (.seq (.cond (.v 18) .skip (.exit 2))
  (.seq (.block 3 (.seq (.region false [] [⟨none, .iaddr 1 (.v 15) (.v 17), none⟩, ⟨none, .load false 1 (.r 0), none⟩, ⟨some 8, .mov (.r 1), none⟩])
  (.region false [] [⟨none, .mov (.v 4), none⟩, ⟨none, .mov (.v 8), none⟩, ⟨none, .iaddr 1 (.r 0) (.r 1), none⟩, ⟨none, .stl 1 (.r 2) (.c (.bool true)), none⟩])))
  (.region false [] [⟨none, .bin false .add (.v 17) (.c (.int .i64 1)), none⟩, ⟨some 17, .mov (.r 0), none⟩])))))))
  (.seq (.seq (.region false [] [⟨some 9, .mov (.c (.int .i64 0)), none⟩])
  (.block 4 (.loop [false, false, false, false, true, true, false, true, false, true, false, false, false, false, false, false, false, false, false, false, false, false, false, false, false] (.seq (.seq (.region false [] [⟨none, .mov (.v 9), none⟩, ⟨none, .mov (.v 7), none⟩, ⟨none, .len false (.r 1), none⟩, ⟨some 19, .bin false .lss (.r 0) (.r 2), none⟩])
  (.cond (.v 19) .skip (.exit 4)))
  (.seq (.block 5 (.seq (.region false [] [⟨none, .mov (.v 5), none⟩, ⟨none, .mov (.v 7), none⟩, ⟨none, .mov (.v 9), none⟩, ⟨none, .iaddr 1 (.r 1) (.r 2), none⟩, ⟨none, .load false 1 (.r 3), none⟩, ⟨none, .iaddr 1 (.r 0) (.r 4), none⟩, ⟨some 20, .ldf (.r 5), none⟩, ⟨some 21, .len false (.v 20), none⟩, ⟨some 22, .mov (.c (.int .i64 0)), none⟩])
  (.block 6 (.loop [false, false, false, false, true, true, false, true, false, true, false, false, false, false, false, false, false, false, false, false, true, true, true, false, false] (.seq (.region false [] [⟨some 23, .bin false .lss (.v 22) (.v 21), none⟩])
  (.seq (.cond (.v 23) .skip (.exit 6))
  (.seq (.block 7 (.seq (.region false [] [⟨none, .iaddr 1 (.v 20) (.v 22), none⟩, ⟨none, .load false 1 (.r 0), none⟩, ⟨some 10, .mov (.r 1), none⟩])
  (.seq (.region false [] [⟨none, .mov (.v 4), none⟩, ⟨none, .mov (.v 10), none⟩, ⟨none, .iaddr 1 (.r 0) (.r 1), none⟩, ⟨none, .load false 1 (.r 2), none⟩, ⟨some 24, .not (.r 3), none⟩])
  (.cond (.v 24) (.seq (.region false [] [⟨none, .mov (.v 4), none⟩, ⟨none, .mov (.v 10), none⟩, ⟨none, .iaddr 1 (.r 0) (.r 1), none⟩, ⟨none, .stl 1 (.r 2) (.c (.bool true)), none⟩])
  (.region false [] [⟨none, .mov (.v 7), none⟩, ⟨none, .mov (.v 10), none⟩, ⟨none, .bslice false t_int true 1 [(.r 1)], none⟩, ⟨none, .apq t_int 1 (.r 0) (.r 2), none⟩, ⟨some 7, .mov (.r 3), none⟩])) .skip))))
  (.region false [] [⟨none, .bin false .add (.v 22) (.c (.int .i64 1)), none⟩, ⟨some 22, .mov (.r 0), none⟩]))))))))
  (.region false [] [⟨none, .mov (.v 9), none⟩, ⟨none, .bin false .add (.r 0) (.c (.int .i64 1)), none⟩, ⟨some 9, .mov (.r 1), none⟩]))))))
  (.seq (.region false [] [⟨none, .mov (.v 4), none⟩, ⟨some 3, .mov (.r 0), none⟩])
  .ret)))))))),
  [.v 3]⟩
def ir_slices_Index_sl_bool_bool : IFun := ⟨[0, 1, 4, 5, 7, 8, 9, 16],
  (.seq (.region false [] [⟨some 2, .mov (.c (.int .i64 0)), none⟩])
  (.seq (.seq (.region false [] [⟨none, .mov (.v 0), none⟩, ⟨some 4, .len false (.r 0), none⟩, ⟨some 5, .mov (.c (.int .i64 0)), none⟩])
  (.block 0 (.loop [true, true, false, false, true, true, false, false] (.seq (.region false [] [⟨some 6, .bin false .lss (.v 5) (.v 4), none⟩])
  (.seq (.cond (.v 6) .skip (.exit 0))
  (.seq (.block 1 (.seq (.region false [] [⟨none, .mov (.v 5), none⟩, ⟨some 3, .mov (.r 0), none⟩])
  (.seq (.region false [] [⟨none, .mov (.v 1), none⟩, ⟨none, .mov (.v 0), none⟩, ⟨none, .mov (.v 3), none⟩, ⟨none, .iaddr 1 (.r 1) (.r 2), none⟩, ⟨none, .load false 1 (.r 3), none⟩, ⟨some 7, .bin true .eql (.r 0) (.r 4), none⟩])
  (.cond (.v 7) (.seq (.region false [] [⟨none, .mov (.v 3), none⟩, ⟨some 2, .mov (.r 0), none⟩])
  .ret) .skip))))
  (.region false [] [⟨none, .bin false .add (.v 5) (.c (.int .i64 1)), none⟩, ⟨some 5, .mov (.r 0), none⟩])))))))
  (.seq (.region false [] [⟨some 2, .mov (.c (.int .i64 (-1))), none⟩])
  .ret))),
  [.v 2]⟩
def ir_slices_Contains_sl_bool_bool : IFun := ⟨[0, 1, 4],
  (.seq (.region false [] [⟨some 2, .mov (.c (.bool false)), none⟩])
  (.seq (.region false [] [⟨none, .mov (.v 0), none⟩, ⟨none, .mov (.v 1), none⟩, ⟨none, .call false f_slices_Index_sl_bool_bool [(.r 0), (.r 1)], none⟩, ⟨none, .bin false .geq (.r 2) (.c (.int .i64 0)), none⟩, ⟨some 2, .mov (.r 3), none⟩])
  .ret)),
  [.v 2]⟩
def ir_impl_IsHome : IFun := ⟨[0, 1, 2, 3, 4, 8, 9, 10, 11, 12, 28],
  (.seq (.region false [] [⟨some 4, .box t_impl_Net 2 (.v 0), none⟩, ⟨some 5, .mov (.c (.bool false)), none⟩, ⟨some 6, .mov (.c (.bool false)), none⟩])
  (.seq (.region false [] [⟨none, .load true 2 (.v 4), none⟩, ⟨none, .mov (.v 1), none⟩, ⟨none, .mov (.v 2), none⟩, ⟨none, .call false f_impl_wholeSpace [(.r 0), (.r 1), (.r 2)], none⟩, ⟨none, .mov (.r 3), none⟩, ⟨none, .extract (.r 4) 0, none⟩, ⟨none, .extract (.r 4) 1, none⟩, ⟨some 7, .alloc t_impl_Space [(.nil false 1), (.nil true 3)], none⟩, ⟨none, .store 2 (.v 7) (.r 5), none⟩, ⟨some 8, .mov (.r 6), none⟩])
  (.seq (.seq (.region false [] [⟨none, .mov (.v 8), none⟩, ⟨none, .not (.r 0), none⟩, ⟨none, .mov (.r 1), none⟩, ⟨none, .faddr 0 (.v 4), some (2, false)⟩, ⟨none, .load false 1 (.r 3), some (2, false)⟩, ⟨none, .mov (.v 3), some (2, false)⟩, ⟨none, .call false f_impl_GoodMark [(.r 4), (.r 5)], some (2, false)⟩, ⟨none, .not (.r 6), some (2, false)⟩, ⟨some 10, .pick (.r 2) (.c (.bool true)) (.r 7), none⟩])
  (.cond (.v 10) (.seq (.region false [] [⟨some 5, .mov (.c (.bool false)), none⟩, ⟨some 6, .mov (.c (.bool false)), none⟩])
  .ret) .skip))
  (.seq (.region false [] [⟨none, .load true 2 (.v 7), none⟩, ⟨none, .mov (.v 3), none⟩, ⟨none, .call false f_impl_Space_find [(.r 0), (.r 1)], none⟩, ⟨some 9, .mov (.r 2), none⟩])
  (.seq (.region false [] [⟨none, .mov (.v 9), none⟩, ⟨none, .bin false .geq (.r 0) (.c (.int .i64 0)), none⟩, ⟨none, .mov (.r 1), none⟩, ⟨none, .load true 2 (.v 7), some (2, true)⟩, ⟨none, .mov (.v 9), some (2, true)⟩, ⟨none, .bslice false t_int true 1 [(.r 4)], some (2, true)⟩, ⟨none, .call false f_impl_Space_leadingTo [(.r 3), (.r 5)], some (2, true)⟩, ⟨none, .call false f_slices_Contains_sl_bool_bool [(.r 6), (.c (.bool false))], some (2, true)⟩, ⟨none, .not (.r 7), some (2, true)⟩, ⟨none, .pick (.r 2) (.r 8) (.c (.bool false)), none⟩, ⟨some 5, .mov (.r 9), none⟩, ⟨some 6, .mov (.c (.bool true)), none⟩])
  .ret))))),
  [.v 5, .v 6]⟩
def ir_spec_l4Asked : IFun := ⟨[0, 1, 2, 3, 6],
  (.seq (.region false [] [⟨some 3, .box t_impl_Net 2 (.v 0), none⟩, ⟨some 4, .mov (.c (.bool false)), none⟩])
  (.seq (.region false [] [⟨none, .load true 2 (.v 3), none⟩, ⟨none, .mov (.v 1), none⟩, ⟨none, .call false f_spec_l2Marked [(.r 0), (.r 1)], none⟩, ⟨none, .mov (.r 2), none⟩, ⟨none, .mov (.v 2), some (3, true)⟩, ⟨none, .call false f_spec_l1In [(.r 4), (.c (.int .i64 1)), (.c (.int .i64 400))], some (3, true)⟩, ⟨none, .pick (.r 3) (.r 5) (.c (.bool false)), none⟩, ⟨some 4, .mov (.r 6), none⟩])
  .ret)),
  [.v 4]⟩
def ir_spec_l1Same : IFun := ⟨[0, 1, 4, 5, 10, 12, 13, 14, 24],
  (.seq (.region false [] [⟨some 2, .mov (.c (.bool false)), none⟩])
  (.seq (.seq (.region false [] [⟨none, .mov (.v 0), none⟩, ⟨none, .len false (.r 0), none⟩, ⟨none, .mov (.v 1), none⟩, ⟨none, .len false (.r 2), none⟩, ⟨some 4, .bin false .neq (.r 1) (.r 3), none⟩])
  (.cond (.v 4) (.seq (.region false [] [⟨some 2, .mov (.c (.bool false)), none⟩])
  .ret) .skip))
  (.seq (.seq (.region false [] [⟨none, .mov (.v 0), none⟩, ⟨some 5, .len false (.r 0), none⟩, ⟨some 6, .mov (.c (.int .i64 0)), none⟩])
  (.block 0 (.loop [true, true, false, false, false, true, true, false, false] (.seq (.region false [] [⟨some 7, .bin false .lss (.v 6) (.v 5), none⟩])
  (.seq (.cond (.v 7) .skip (.exit 0))
  (.seq (.block 1 (.seq (.region false [] [⟨none, .mov (.v 6), none⟩, ⟨some 3, .mov (.r 0), none⟩])
  (.seq (.region true [] [⟨none, .mov (.v 0), none⟩, ⟨none, .mov (.v 3), none⟩, ⟨none, .iaddr 1 (.r 0) (.r 1), none⟩, ⟨none, .load false 1 (.r 2), none⟩, ⟨none, .mov (.v 1), none⟩, ⟨none, .mov (.v 3), none⟩, ⟨none, .iaddr 1 (.r 4) (.r 5), none⟩, ⟨none, .load false 1 (.r 6), none⟩, ⟨some 8, .bin false .neq (.r 3) (.r 7), none⟩])
  (.cond (.v 8) (.seq (.region false [] [⟨some 2, .mov (.c (.bool false)), none⟩])
  .ret) .skip))))
  (.region false [] [⟨none, .bin false .add (.v 6) (.c (.int .i64 1)), none⟩, ⟨some 6, .mov (.r 0), none⟩])))))))
  (.seq (.region false [] [⟨some 2, .mov (.c (.bool true)), none⟩])
  .ret)))),
  [.v 2]⟩
def ir_spec_l4Find : IFun := ⟨[0, 1, 4, 5, 6, 7, 8, 9, 10, 16],
  (.seq (.region false [] [⟨some 2, .mov (.c (.int .i64 0)), none⟩])
  (.seq (.seq (.region false [] [⟨some 5, .mov (.v 0), none⟩, ⟨some 6, .len false (.v 5), none⟩, ⟨some 7, .mov (.c (.int .i64 0)), none⟩])
  (.block 0 (.loop [false, true, false, false, false, true, true, true, false, false] (.seq (.region false [] [⟨some 8, .bin false .lss (.v 7) (.v 6), none⟩])
  (.seq (.cond (.v 8) .skip (.exit 0))
  (.seq (.block 1 (.seq (.region false [] [⟨none, .mov (.v 7), none⟩, ⟨none, .iaddr 1 (.v 5) (.v 7), none⟩, ⟨none, .load false 1 (.r 1), none⟩, ⟨some 3, .mov (.r 0), none⟩, ⟨some 4, .mov (.r 2), none⟩])
  (.seq (.region false [] [⟨none, .mov (.v 4), none⟩, ⟨none, .mov (.v 1), none⟩, ⟨some 9, .call false f_spec_l1Same [(.r 0), (.r 1)], none⟩])
  (.cond (.v 9) (.seq (.region false [] [⟨none, .mov (.v 3), none⟩, ⟨some 2, .mov (.r 0), none⟩])
  .ret) .skip))))
  (.region false [] [⟨none, .bin false .add (.v 7) (.c (.int .i64 1)), none⟩, ⟨some 7, .mov (.r 0), none⟩])))))))
  (.seq (.region false [] [⟨some 2, .mov (.c (.int .i64 (-1))), none⟩])
  .ret))),
  [.v 2]⟩
def ir_spec_l4Explore : IFun := ⟨[0, 1, 2, 3, 6, 7, 8, 9, 11, 12, 13, 22, 31, 32, 33, 34, 52, 66, 69],
  (.seq (.region false [] [⟨some 3, .box t_impl_Net 2 (.v 0), none⟩, ⟨some 4, .alloc t_impl_Space [(.nil false 1), (.nil true 3)], none⟩, ⟨some 5, .mov (.c (.int .i64 0)), none⟩])
  (.seq (.region false [] [⟨none, .mov (.v 1), none⟩, ⟨none, .call false f_spec_l1Own [(.r 0)], none⟩, ⟨none, .bslice false t_sl_int false 1 [(.r 1)], none⟩, ⟨none, .build [(.nil false 1), (.nil true 3)] [(0, 1, (.r 2))], none⟩, ⟨some 6, .alloc t_impl_Space [(.nil false 1), (.nil true 3)], none⟩, ⟨none, .store 2 (.v 6) (.r 3), none⟩])
  (.seq (.seq (.region false [] [⟨some 7, .mov (.c (.int .i64 0)), none⟩])
  (.block 0 (.loop [false, false, true, true, true, false, true, true, false, false, false, false, false, false, false, false, false, false, false] (.seq (.seq (.region false [] [⟨none, .mov (.v 7), none⟩, ⟨none, .faddr 0 (.v 6), none⟩, ⟨none, .load false 1 (.r 1), none⟩, ⟨none, .len false (.r 2), none⟩, ⟨some 11, .bin false .lss (.r 0) (.r 3), none⟩])
  (.cond (.v 11) .skip (.exit 0)))
  (.seq (.block 1 (.seq (.region true [] [⟨none, .load true 2 (.v 3), none⟩, ⟨none, .faddr 0 (.v 6), none⟩, ⟨none, .load false 1 (.r 1), none⟩, ⟨none, .mov (.v 7), none⟩, ⟨none, .iaddr 1 (.r 2) (.r 3), none⟩, ⟨none, .load false 1 (.r 4), none⟩, ⟨some 14, .mov (.c (.int .i64 0)), none⟩, ⟨some 12, .call false f_spec_l2Enabled [(.r 0), (.r 5)], none⟩, ⟨some 13, .len false (.v 12), none⟩])
  (.block 2 (.loop [false, false, true, true, true, false, true, true, false, false, false, false, true, true, true, false, false, false, false] (.seq (.region false [] [⟨some 15, .bin false .lss (.v 14) (.v 13), none⟩])
  (.seq (.cond (.v 15) .skip (.exit 2))
  (.seq (.block 3 (.seq (.region false [] [⟨none, .iaddr 1 (.v 12) (.v 14), none⟩, ⟨none, .load false 1 (.r 0), none⟩, ⟨some 8, .mov (.r 1), none⟩])
  (.seq (.region true [] [⟨none, .faddr 1 (.v 3), none⟩, ⟨none, .load false 1 (.r 0), none⟩, ⟨none, .mov (.v 8), none⟩, ⟨none, .iaddr 3 (.r 1) (.r 2), none⟩, ⟨none, .load true 3 (.r 3), none⟩, ⟨none, .faddr 0 (.v 6), none⟩, ⟨none, .load false 1 (.r 5), none⟩, ⟨none, .mov (.v 7), none⟩, ⟨none, .iaddr 1 (.r 6) (.r 7), none⟩, ⟨none, .load false 1 (.r 8), none⟩, ⟨none, .call false f_spec_l2Fire [(.r 4), (.r 9)], none⟩, ⟨some 9, .mov (.r 10), none⟩])
  (.seq (.seq (.region false [] [⟨none, .faddr 0 (.v 3), none⟩, ⟨none, .load false 1 (.r 0), none⟩, ⟨none, .mov (.v 9), none⟩, ⟨none, .call false f_spec_GoodMark [(.r 1), (.r 2)], none⟩, ⟨some 16, .not (.r 3), none⟩])
  (.cond (.v 16) (.seq (.region false [] [⟨none, .build [(.nil false 1), (.nil true 3)] [], none⟩, ⟨none, .store 2 (.v 4) (.r 0), none⟩, ⟨some 5, .mov (.c (.int .i64 3)), none⟩])
  .ret) .skip))
  (.seq (.region false [] [⟨none, .faddr 0 (.v 6), none⟩, ⟨none, .load false 1 (.r 0), none⟩, ⟨none, .mov (.v 9), none⟩, ⟨none, .call false f_spec_l4Find [(.r 1), (.r 2)], none⟩, ⟨some 10, .mov (.r 3), none⟩])
  (.seq (.seq (.region false [] [⟨none, .mov (.v 10), none⟩, ⟨none, .bin false .lss (.r 0) (.c (.int .i64 0)), none⟩, ⟨none, .mov (.r 1), none⟩, ⟨none, .faddr 0 (.v 6), some (2, true)⟩, ⟨none, .load false 1 (.r 3), some (2, true)⟩, ⟨none, .len false (.r 4), some (2, true)⟩, ⟨none, .mov (.v 2), some (2, true)⟩, ⟨none, .bin false .eql (.r 5) (.r 6), some (2, true)⟩, ⟨some 17, .pick (.r 2) (.r 7) (.c (.bool false)), none⟩])
  (.cond (.v 17) (.seq (.region false [] [⟨none, .build [(.nil false 1), (.nil true 3)] [], none⟩, ⟨none, .store 2 (.v 4) (.r 0), none⟩, ⟨some 5, .mov (.c (.int .i64 2)), none⟩])
  .ret) .skip))
  (.seq (.seq (.region false [] [⟨none, .mov (.v 10), none⟩, ⟨some 18, .bin false .lss (.r 0) (.c (.int .i64 0)), none⟩])
  (.cond (.v 18) (.seq (.region false [] [⟨none, .faddr 0 (.v 6), none⟩, ⟨none, .load false 1 (.r 0), none⟩, ⟨none, .len false (.r 1), none⟩, ⟨some 10, .mov (.r 2), none⟩])
  (.region false [] [⟨none, .faddr 0 (.v 6), none⟩, ⟨none, .load false 1 (.r 0), none⟩, ⟨none, .mov (.v 9), none⟩, ⟨none, .bslice false t_sl_int false 1 [(.r 2)], none⟩, ⟨none, .append t_sl_int false 1 (.r 1) (.r 3), none⟩, ⟨none, .faddr 0 (.v 6), none⟩, ⟨none, .store 1 (.r 5) (.r 4), none⟩])) .skip))
  (.region false [] [⟨none, .faddr 1 (.v 6), none⟩, ⟨none, .load false 1 (.r 0), none⟩, ⟨none, .mov (.v 7), none⟩, ⟨none, .mov (.v 8), none⟩, ⟨none, .mov (.v 10), none⟩, ⟨none, .build [(.int .i64 0), (.int .i64 0), (.int .i64 0)] [(0, 1, (.r 2)), (1, 1, (.r 3)), (2, 1, (.r 4))], none⟩, ⟨none, .bslice false t_impl_Arc true 3 [(.r 5)], none⟩, ⟨none, .append t_impl_Arc true 3 (.r 1) (.r 6), none⟩, ⟨none, .faddr 1 (.v 6), none⟩, ⟨none, .store 1 (.r 8) (.r 7), none⟩]))))))))
  (.region false [] [⟨none, .bin false .add (.v 14) (.c (.int .i64 1)), none⟩, ⟨some 14, .mov (.r 0), none⟩]))))))))
  (.region false [] [⟨none, .mov (.v 7), none⟩, ⟨none, .bin false .add (.r 0) (.c (.int .i64 1)), none⟩, ⟨some 7, .mov (.r 1), none⟩]))))))
  (.seq (.region false [] [⟨none, .load true 2 (.v 6), none⟩, ⟨none, .store 2 (.v 4) (.r 0), none⟩, ⟨some 5, .mov (.c (.int .i64 1)), none⟩])
  .ret)))),
  [.cell true 2 4, .v 5]⟩
def ir_spec_Explore : IFun := ⟨[0, 1, 2, 3, 6, 7, 8, 9, 10, 15],
  (.seq (.region false [] [⟨some 3, .box t_impl_Net 2 (.v 0), none⟩, ⟨some 4, .alloc t_impl_Space [(.nil false 1), (.nil true 3)], none⟩, ⟨some 5, .mov (.c (.int .i64 0)), none⟩, ⟨some 6, .mov (.c (.bool false)), none⟩])
  (.seq (.seq (.region false [] [⟨none, .load true 2 (.v 3), none⟩, ⟨none, .mov (.v 1), none⟩, ⟨none, .mov (.v 2), none⟩, ⟨none, .call false f_spec_l4Asked [(.r 0), (.r 1), (.r 2)], none⟩, ⟨some 9, .not (.r 3), none⟩])
  (.cond (.v 9) (.seq (.region false [] [⟨none, .build [(.nil false 1), (.nil true 3)] [], none⟩, ⟨none, .store 2 (.v 4) (.r 0), none⟩, ⟨some 5, .mov (.c (.int .i64 0)), none⟩, ⟨some 6, .mov (.c (.bool false)), none⟩])
  .ret) .skip))
  (.seq (.region false [] [⟨none, .load true 2 (.v 3), none⟩, ⟨none, .mov (.v 1), none⟩, ⟨none, .mov (.v 2), none⟩, ⟨none, .call false f_spec_l4Explore [(.r 0), (.r 1), (.r 2)], none⟩, ⟨none, .mov (.r 3), none⟩, ⟨none, .extract (.r 4) 0, none⟩, ⟨none, .extract (.r 4) 1, none⟩, ⟨some 7, .alloc t_impl_Space [(.nil false 1), (.nil true 3)], none⟩, ⟨none, .store 2 (.v 7) (.r 5), none⟩, ⟨some 8, .mov (.r 6), none⟩])
  (.seq (.region false [] [⟨none, .load true 2 (.v 7), none⟩, ⟨none, .mov (.v 8), none⟩, ⟨none, .store 2 (.v 4) (.r 0), none⟩, ⟨some 5, .mov (.r 1), none⟩, ⟨some 6, .mov (.c (.bool true)), none⟩])
  .ret)))),
  [.cell true 2 4, .v 5, .v 6]⟩
def ir_spec_l4All : IFun := ⟨[0, 1, 2, 3, 6, 7, 8, 9, 10],
  (.seq (.region false [] [⟨some 3, .box t_impl_Net 2 (.v 0), none⟩, ⟨some 4, .alloc t_impl_Space [(.nil false 1), (.nil true 3)], none⟩, ⟨some 5, .mov (.c (.bool false)), none⟩])
  (.seq (.region false [] [⟨none, .load true 2 (.v 3), none⟩, ⟨none, .mov (.v 1), none⟩, ⟨none, .mov (.v 2), none⟩, ⟨none, .call false f_spec_Explore [(.r 0), (.r 1), (.r 2)], none⟩, ⟨none, .mov (.r 3), none⟩, ⟨none, .extract (.r 4) 0, none⟩, ⟨none, .extract (.r 4) 1, none⟩, ⟨none, .extract (.r 4) 2, none⟩, ⟨some 6, .alloc t_impl_Space [(.nil false 1), (.nil true 3)], none⟩, ⟨none, .store 2 (.v 6) (.r 5), none⟩, ⟨some 7, .mov (.r 6), none⟩, ⟨some 8, .mov (.r 7), none⟩])
  (.seq (.region false [] [⟨none, .load true 2 (.v 6), none⟩, ⟨none, .mov (.v 8), none⟩, ⟨none, .mov (.r 1), none⟩, ⟨none, .mov (.v 7), some (2, true)⟩, ⟨none, .bin false .eql (.r 3) (.c (.int .i64 1)), some (2, true)⟩, ⟨none, .pick (.r 2) (.r 4) (.c (.bool false)), none⟩, ⟨none, .store 2 (.v 4) (.r 0), none⟩, ⟨some 5, .mov (.r 5), none⟩])
  .ret))),
  [.cell true 2 4, .v 5]⟩
def ir_spec_l4To : IFun := ⟨[0, 1, 2, 4, 5, 7, 8, 10, 15, 16, 17, 18, 25, 27, 28, 29, 30, 45],
  (.seq (.region false [] [⟨some 2, .box t_impl_Space 2 (.v 0), none⟩, ⟨some 3, .nilrow t_bool true 1, none⟩])
  (.seq (.region false [] [⟨none, .faddr 0 (.v 2), none⟩, ⟨none, .load false 1 (.r 0), none⟩, ⟨none, .len false (.r 1), none⟩, ⟨none, .mk t_bool true 1 (.bool false) (.r 2), none⟩, ⟨some 4, .mov (.r 3), none⟩])
  (.seq (.seq (.region false [] [⟨some 8, .mov (.v 1), none⟩, ⟨some 9, .len false (.v 8), none⟩, ⟨some 10, .mov (.c (.int .i64 0)), none⟩])
  (.block 0 (.loop [false, false, true, false, true, false, false, false, true, true, true, false, false, false, false, false, false, false] (.seq (.region false [] [⟨some 11, .bin false .lss (.v 10) (.v 9), none⟩])
  (.seq (.cond (.v 11) .skip (.exit 0))
  (.seq (.block 1 (.seq (.region false [] [⟨none, .iaddr 1 (.v 8) (.v 10), none⟩, ⟨none, .load false 1 (.r 0), none⟩, ⟨some 5, .mov (.r 1), none⟩])
  (.region false [] [⟨none, .mov (.v 4), none⟩, ⟨none, .mov (.v 5), none⟩, ⟨none, .iaddr 1 (.r 0) (.r 1), none⟩, ⟨none, .store 1 (.r 2) (.c (.bool true)), none⟩])))
  (.region false [] [⟨none, .bin false .add (.v 10) (.c (.int .i64 1)), none⟩, ⟨some 10, .mov (.r 0), none⟩])))))))
  (.seq (.seq (.region false [] [⟨some 6, .mov (.c (.bool true)), none⟩])
  (.block 2 (.loop [false, false, true, false, true, false, true, false, false, false, false, false, false, false, false, false, false, false] (.seq (.seq (.region false [] [⟨some 12, .mov (.v 6), none⟩])
  (.cond (.v 12) .skip (.exit 2)))
  (.block 3 (.seq (.region false [] [⟨some 6, .mov (.c (.bool false)), none⟩])
  (.seq (.region false [] [⟨none, .faddr 1 (.v 2), none⟩, ⟨some 13, .load false 1 (.r 0), none⟩, ⟨some 14, .len false (.v 13), none⟩, ⟨some 15, .mov (.c (.int .i64 0)), none⟩])
  (.block 4 (.loop [false, false, true, false, true, false, true, false, false, false, false, false, false, true, true, true, false, false] (.seq (.region false [] [⟨some 16, .bin false .lss (.v 15) (.v 14), none⟩])
  (.seq (.cond (.v 16) .skip (.exit 4))
  (.seq (.block 5 (.seq (.region false [] [⟨none, .iaddr 3 (.v 13) (.v 15), none⟩, ⟨none, .load true 3 (.r 0), none⟩, ⟨some 7, .alloc t_impl_Arc [(.int .i64 0), (.int .i64 0), (.int .i64 0)], none⟩, ⟨none, .store 3 (.v 7) (.r 1), none⟩])
  (.seq (.region false [] [⟨none, .mov (.v 4), none⟩, ⟨none, .faddr 2 (.v 7), none⟩, ⟨none, .load false 1 (.r 1), none⟩, ⟨none, .iaddr 1 (.r 0) (.r 2), none⟩, ⟨none, .load false 1 (.r 3), none⟩, ⟨none, .mov (.r 4), none⟩, ⟨none, .mov (.v 4), some (5, true)⟩, ⟨none, .faddr 0 (.v 7), some (5, true)⟩, ⟨none, .load false 1 (.r 7), some (5, true)⟩, ⟨none, .iaddr 1 (.r 6) (.r 8), some (5, true)⟩, ⟨none, .load false 1 (.r 9), some (5, true)⟩, ⟨none, .not (.r 10), some (5, true)⟩, ⟨some 17, .pick (.r 5) (.r 11) (.c (.bool false)), none⟩])
  (.cond (.v 17) (.seq (.region false [] [⟨none, .mov (.v 4), none⟩, ⟨none, .faddr 0 (.v 7), none⟩, ⟨none, .load false 1 (.r 1), none⟩, ⟨none, .iaddr 1 (.r 0) (.r 2), none⟩, ⟨none, .store 1 (.r 3) (.c (.bool true)), none⟩])
  (.region false [] [⟨some 6, .mov (.c (.bool true)), none⟩])) .skip))))
  (.region false [] [⟨none, .bin false .add (.v 15) (.c (.int .i64 1)), none⟩, ⟨some 15, .mov (.r 0), none⟩])))))))))))))
  (.seq (.region false [] [⟨none, .mov (.v 4), none⟩, ⟨some 3, .mov (.r 0), none⟩])
  .ret))))),
  [.v 3]⟩
def ir_spec_l4Everywhere : IFun := ⟨[0, 1, 2, 4, 6, 9, 10, 11, 12, 16],
  (.seq (.region false [] [⟨some 2, .box t_impl_Space 2 (.v 0), none⟩, ⟨some 3, .mov (.c (.bool false)), none⟩])
  (.seq (.seq (.region false [] [⟨none, .load true 2 (.v 2), none⟩, ⟨none, .mov (.v 1), none⟩, ⟨some 5, .call false f_spec_l4To [(.r 0), (.r 1)], none⟩, ⟨some 6, .len false (.v 5), none⟩, ⟨some 7, .mov (.c (.int .i64 0)), none⟩])
  (.block 0 (.loop [false, false, false, false, false, true, true, true, false, false] (.seq (.region false [] [⟨some 8, .bin false .lss (.v 7) (.v 6), none⟩])
  (.seq (.cond (.v 8) .skip (.exit 0))
  (.seq (.block 1 (.seq (.region false [] [⟨none, .iaddr 1 (.v 5) (.v 7), none⟩, ⟨none, .load false 1 (.r 0), none⟩, ⟨some 4, .mov (.r 1), none⟩])
  (.seq (.region false [] [⟨none, .mov (.v 4), none⟩, ⟨some 9, .not (.r 0), none⟩])
  (.cond (.v 9) (.seq (.region false [] [⟨some 3, .mov (.c (.bool false)), none⟩])
  .ret) .skip))))
  (.region false [] [⟨none, .bin false .add (.v 7) (.c (.int .i64 1)), none⟩, ⟨some 7, .mov (.r 0), none⟩])))))))
  (.seq (.region false [] [⟨some 3, .mov (.c (.bool true)), none⟩])
  .ret))),
  [.v 3]⟩
def ir_spec_IsHome : IFun := ⟨[0, 1, 2, 3, 4, 8, 9, 10, 11, 12, 13, 29, 35],
  (.seq (.region false [] [⟨some 4, .box t_impl_Net 2 (.v 0), none⟩, ⟨some 5, .mov (.c (.bool false)), none⟩, ⟨some 6, .mov (.c (.bool false)), none⟩])
  (.seq (.region false [] [⟨none, .load true 2 (.v 4), none⟩, ⟨none, .mov (.v 1), none⟩, ⟨none, .mov (.v 2), none⟩, ⟨none, .call false f_spec_l4All [(.r 0), (.r 1), (.r 2)], none⟩, ⟨none, .mov (.r 3), none⟩, ⟨none, .extract (.r 4) 0, none⟩, ⟨none, .extract (.r 4) 1, none⟩, ⟨some 7, .alloc t_impl_Space [(.nil false 1), (.nil true 3)], none⟩, ⟨none, .store 2 (.v 7) (.r 5), none⟩, ⟨some 8, .mov (.r 6), none⟩])
  (.seq (.seq (.region false [] [⟨none, .mov (.v 8), none⟩, ⟨none, .not (.r 0), none⟩, ⟨none, .mov (.r 1), none⟩, ⟨none, .faddr 0 (.v 4), some (2, false)⟩, ⟨none, .load false 1 (.r 3), some (2, false)⟩, ⟨none, .mov (.v 3), some (2, false)⟩, ⟨none, .call false f_spec_GoodMark [(.r 4), (.r 5)], some (2, false)⟩, ⟨none, .not (.r 6), some (2, false)⟩, ⟨some 11, .pick (.r 2) (.c (.bool true)) (.r 7), none⟩])
  (.cond (.v 11) (.seq (.region false [] [⟨some 5, .mov (.c (.bool false)), none⟩, ⟨some 6, .mov (.c (.bool false)), none⟩])
  .ret) .skip))
  (.seq (.region false [] [⟨some 9, .nilrow t_int true 1, none⟩])
  (.seq (.seq (.region false [] [⟨none, .faddr 0 (.v 7), none⟩, ⟨none, .load false 1 (.r 0), none⟩, ⟨none, .mov (.v 3), none⟩, ⟨none, .call false f_spec_l4Find [(.r 1), (.r 2)], none⟩, ⟨some 10, .mov (.r 3), none⟩])
  (.seq (.region false [] [⟨none, .mov (.v 10), none⟩, ⟨some 12, .bin false .geq (.r 0) (.c (.int .i64 0)), none⟩])
  (.cond (.v 12) (.region false [] [⟨none, .mov (.v 9), none⟩, ⟨none, .mov (.v 10), none⟩, ⟨none, .bslice false t_int true 1 [(.r 1)], none⟩, ⟨none, .append t_int true 1 (.r 0) (.r 2), none⟩, ⟨some 9, .mov (.r 3), none⟩]) .skip)))
  (.seq (.region false [] [⟨none, .load true 2 (.v 7), none⟩, ⟨none, .mov (.v 9), none⟩, ⟨none, .call false f_spec_l4Everywhere [(.r 0), (.r 1)], none⟩, ⟨some 5, .mov (.r 2), none⟩, ⟨some 6, .mov (.c (.bool true)), none⟩])
  .ret)))))),
  [.v 5, .v 6]⟩
def ir_impl_CanCome : IFun := ⟨[0, 1, 2, 3, 4, 8, 9, 10, 11, 27],
  (.seq (.region false [] [⟨some 4, .box t_impl_Net 2 (.v 0), none⟩, ⟨some 5, .mov (.c (.bool false)), none⟩, ⟨some 6, .mov (.c (.bool false)), none⟩])
  (.seq (.region false [] [⟨none, .load true 2 (.v 4), none⟩, ⟨none, .mov (.v 1), none⟩, ⟨none, .mov (.v 2), none⟩, ⟨none, .call false f_impl_wholeSpace [(.r 0), (.r 1), (.r 2)], none⟩, ⟨none, .mov (.r 3), none⟩, ⟨none, .extract (.r 4) 0, none⟩, ⟨none, .extract (.r 4) 1, none⟩, ⟨some 7, .alloc t_impl_Space [(.nil false 1), (.nil true 3)], none⟩, ⟨none, .store 2 (.v 7) (.r 5), none⟩, ⟨some 8, .mov (.r 6), none⟩])
  (.seq (.seq (.region false [] [⟨none, .mov (.v 8), none⟩, ⟨none, .not (.r 0), none⟩, ⟨none, .mov (.r 1), none⟩, ⟨none, .faddr 0 (.v 4), some (2, false)⟩, ⟨none, .load false 1 (.r 3), some (2, false)⟩, ⟨none, .mov (.v 3), some (2, false)⟩, ⟨none, .call false f_impl_GoodMark [(.r 4), (.r 5)], some (2, false)⟩, ⟨none, .not (.r 6), some (2, false)⟩, ⟨some 9, .pick (.r 2) (.c (.bool true)) (.r 7), none⟩])
  (.cond (.v 9) (.seq (.region false [] [⟨some 5, .mov (.c (.bool false)), none⟩, ⟨some 6, .mov (.c (.bool false)), none⟩])
  .ret) .skip))
  (.seq (.region false [] [⟨none, .load true 2 (.v 7), none⟩, ⟨none, .mov (.v 3), none⟩, ⟨none, .call false f_impl_Space_find [(.r 0), (.r 1)], none⟩, ⟨none, .bin false .geq (.r 2) (.c (.int .i64 0)), none⟩, ⟨some 5, .mov (.r 3), none⟩, ⟨some 6, .mov (.c (.bool true)), none⟩])
  .ret)))),
  [.v 5, .v 6]⟩
def ir_spec_CanCome : IFun := ⟨[0, 1, 2, 3, 4, 8, 9, 10, 11, 27],
  (.seq (.region false [] [⟨some 4, .box t_impl_Net 2 (.v 0), none⟩, ⟨some 5, .mov (.c (.bool false)), none⟩, ⟨some 6, .mov (.c (.bool false)), none⟩])
  (.seq (.region false [] [⟨none, .load true 2 (.v 4), none⟩, ⟨none, .mov (.v 1), none⟩, ⟨none, .mov (.v 2), none⟩, ⟨none, .call false f_spec_l4All [(.r 0), (.r 1), (.r 2)], none⟩, ⟨none, .mov (.r 3), none⟩, ⟨none, .extract (.r 4) 0, none⟩, ⟨none, .extract (.r 4) 1, none⟩, ⟨some 7, .alloc t_impl_Space [(.nil false 1), (.nil true 3)], none⟩, ⟨none, .store 2 (.v 7) (.r 5), none⟩, ⟨some 8, .mov (.r 6), none⟩])
  (.seq (.seq (.region false [] [⟨none, .mov (.v 8), none⟩, ⟨none, .not (.r 0), none⟩, ⟨none, .mov (.r 1), none⟩, ⟨none, .faddr 0 (.v 4), some (2, false)⟩, ⟨none, .load false 1 (.r 3), some (2, false)⟩, ⟨none, .mov (.v 3), some (2, false)⟩, ⟨none, .call false f_spec_GoodMark [(.r 4), (.r 5)], some (2, false)⟩, ⟨none, .not (.r 6), some (2, false)⟩, ⟨some 9, .pick (.r 2) (.c (.bool true)) (.r 7), none⟩])
  (.cond (.v 9) (.seq (.region false [] [⟨some 5, .mov (.c (.bool false)), none⟩, ⟨some 6, .mov (.c (.bool false)), none⟩])
  .ret) .skip))
  (.seq (.region false [] [⟨none, .faddr 0 (.v 7), none⟩, ⟨none, .load false 1 (.r 0), none⟩, ⟨none, .mov (.v 3), none⟩, ⟨none, .call false f_spec_l4Find [(.r 1), (.r 2)], none⟩, ⟨none, .bin false .geq (.r 3) (.c (.int .i64 0)), none⟩, ⟨some 5, .mov (.r 4), none⟩, ⟨some 6, .mov (.c (.bool true)), none⟩])
  .ret)))),
  [.v 5, .v 6]⟩
def ir_impl_Space_wayTo_1 : IFun := ⟨[0, 1, 2, 3],
  (.seq (.region false [] [⟨some 2, .box t_impl_Arc 3 (.v 0), none⟩, ⟨some 3, .mov (.c (.bool false)), none⟩])
  (.seq (.region false [] [⟨none, .faddr 2 (.v 2), none⟩, ⟨none, .load false 1 (.r 0), none⟩, ⟨none, .load false 1 (.v 1), none⟩, ⟨none, .bin false .eql (.r 1) (.r 2), none⟩, ⟨some 3, .mov (.r 3), none⟩])
  .ret)),
  [.v 3]⟩
def ir_slices_IndexFunc_sl_impl_Arc_impl_Arc : IFun := ⟨[0, 1, 4, 5, 7, 8, 9, 16],
  (.seq (.region false [] [⟨some 2, .mov (.c (.int .i64 0)), none⟩])
  (.seq (.seq (.region false [] [⟨none, .mov (.v 0), none⟩, ⟨some 4, .len false (.r 0), none⟩, ⟨some 5, .mov (.c (.int .i64 0)), none⟩])
  (.block 0 (.loop [true, true, false, false, true, true, false, false] (.seq (.region false [] [⟨some 6, .bin false .lss (.v 5) (.v 4), none⟩])
  (.seq (.cond (.v 6) .skip (.exit 0))
  (.seq (.block 1 (.seq (.region false [] [⟨none, .mov (.v 5), none⟩, ⟨some 3, .mov (.r 0), none⟩])
  (.seq (.region false [] [⟨none, .mov (.v 1), none⟩, ⟨none, .mov (.v 0), none⟩, ⟨none, .mov (.v 3), none⟩, ⟨none, .iaddr 3 (.r 1) (.r 2), none⟩, ⟨none, .load true 3 (.r 3), none⟩, ⟨some 7, .callv false (.r 0) [(.r 4)], none⟩])
  (.cond (.v 7) (.seq (.region false [] [⟨none, .mov (.v 3), none⟩, ⟨some 2, .mov (.r 0), none⟩])
  .ret) .skip))))
  (.region false [] [⟨none, .bin false .add (.v 5) (.c (.int .i64 1)), none⟩, ⟨some 5, .mov (.r 0), none⟩])))))))
  (.seq (.region false [] [⟨some 2, .mov (.c (.int .i64 (-1))), none⟩])
  .ret))),
  [.v 2]⟩
def ir_slices_Reverse_sl_int_int : IFun := ⟨[0, 2, 3, 9],
  (.seq (.region false [] [⟨none, .mov (.v 0), none⟩, ⟨none, .len false (.r 0), none⟩, ⟨none, .bin false .sub (.r 1) (.c (.int .i64 1)), none⟩, ⟨some 1, .mov (.c (.int .i64 0)), none⟩, ⟨some 2, .mov (.r 2), none⟩])
  (.block 0 (.loop [true, true, true, false] (.seq (.seq (.region false [] [⟨none, .mov (.v 1), none⟩, ⟨none, .mov (.v 2), none⟩, ⟨some 3, .bin false .lss (.r 0) (.r 1), none⟩])
  (.cond (.v 3) .skip (.exit 0)))
  (.seq (.block 1 (.region true [] [⟨none, .mov (.v 0), none⟩, ⟨none, .mov (.v 1), none⟩, ⟨none, .mov (.v 0), none⟩, ⟨none, .mov (.v 2), none⟩, ⟨none, .mov (.v 0), none⟩, ⟨none, .mov (.v 2), none⟩, ⟨none, .iaddr 1 (.r 4) (.r 5), none⟩, ⟨none, .load false 1 (.r 6), none⟩, ⟨none, .mov (.v 0), none⟩, ⟨none, .mov (.v 1), none⟩, ⟨none, .iaddr 1 (.r 8) (.r 9), none⟩, ⟨none, .load false 1 (.r 10), none⟩, ⟨none, .iaddr 1 (.r 0) (.r 1), none⟩, ⟨none, .store 1 (.r 12) (.r 7), none⟩, ⟨none, .iaddr 1 (.r 2) (.r 3), none⟩, ⟨none, .store 1 (.r 14) (.r 11), none⟩]))
  (.region false [] [⟨none, .mov (.v 1), none⟩, ⟨none, .bin false .add (.r 0) (.c (.int .i64 1)), none⟩, ⟨none, .mov (.v 2), none⟩, ⟨none, .bin false .sub (.r 2) (.c (.int .i64 1)), none⟩, ⟨some 1, .mov (.r 1), none⟩, ⟨some 2, .mov (.r 3), none⟩])))))),
  []⟩
def ir_impl_Space_wayTo : IFun := ⟨[0, 1, 2, 4, 5, 6, 7, 8, 13, 15],
  (.seq (.region false [] [⟨some 2, .box t_impl_Space 2 (.v 0), none⟩, ⟨some 3, .nilrow t_int true 1, none⟩, ⟨some 4, .mov (.c (.bool false)), none⟩])
  (.seq (.region false [] [⟨none, .load true 2 (.v 2), none⟩, ⟨none, .mov (.v 1), none⟩, ⟨none, .call false f_impl_Space_find [(.r 0), (.r 1)], none⟩, ⟨some 5, .alloc t_int [(.int .i64 0)], none⟩, ⟨none, .store 1 (.v 5) (.r 2), none⟩])
  (.seq (.seq (.region false [] [⟨none, .load false 1 (.v 5), none⟩, ⟨some 8, .bin false .lss (.r 0) (.c (.int .i64 0)), none⟩])
  (.cond (.v 8) (.seq (.region false [] [⟨some 3, .nilrow t_int true 1, none⟩, ⟨some 4, .mov (.c (.bool false)), none⟩])
  .ret) .skip))
  (.seq (.region false [] [⟨some 6, .nilrow t_int true 1, none⟩])
  (.seq (.block 0 (.loop [false, false, true, false, false, true, true, false, false, false] (.seq (.seq (.region false [] [⟨none, .load false 1 (.v 5), none⟩, ⟨some 9, .bin false .gtr (.r 0) (.c (.int .i64 0)), none⟩])
  (.cond (.v 9) .skip (.exit 0)))
  (.block 1 (.seq (.region true [(6, 1)] [⟨none, .faddr 1 (.v 2), none⟩, ⟨none, .load false 1 (.r 0), none⟩, ⟨none, .faddr 1 (.v 2), none⟩, ⟨none, .load false 1 (.r 2), none⟩, ⟨none, .mkfn f_impl_Space_wayTo_1 [(.v 5)], none⟩, ⟨some 7, .alloc t_impl_Arc [(.int .i64 0), (.int .i64 0), (.int .i64 0)], none⟩, ⟨none, .call false f_slices_IndexFunc_sl_impl_Arc_impl_Arc [(.r 3), (.r 4)], none⟩, ⟨none, .iaddr 3 (.r 1) (.r 6), none⟩, ⟨none, .load true 3 (.r 7), none⟩, ⟨none, .store 3 (.v 7) (.r 8), none⟩])
  (.seq (.region false [] [⟨none, .mov (.v 6), none⟩, ⟨none, .faddr 1 (.v 7), none⟩, ⟨none, .load false 1 (.r 1), none⟩, ⟨none, .bslice false t_int true 1 [(.r 2)], none⟩, ⟨none, .append t_int true 1 (.r 0) (.r 3), none⟩, ⟨some 6, .mov (.r 4), none⟩])
  (.region false [] [⟨none, .faddr 0 (.v 7), none⟩, ⟨none, .load false 1 (.r 0), none⟩, ⟨none, .store 1 (.v 5) (.r 1), none⟩])))))))
  (.seq (.region false [] [⟨none, .mov (.v 6), none⟩, ⟨none, .callm f_slices_Reverse_sl_int_int [(.r 0)], none⟩])
  (.seq (.region false [] [⟨none, .mov (.v 6), none⟩, ⟨some 3, .mov (.r 0), none⟩, ⟨some 4, .mov (.c (.bool true)), none⟩])
  .ret))))))),
  [.v 3, .v 4]⟩
def ir_impl_WayTo : IFun := ⟨[0, 1, 2, 3, 4, 8, 9, 10, 11, 12, 28, 41],
  (.seq (.region false [] [⟨some 4, .box t_impl_Net 2 (.v 0), none⟩, ⟨some 5, .nilrow t_int true 1, none⟩, ⟨some 6, .mov (.c (.bool false)), none⟩])
  (.seq (.region false [] [⟨none, .load true 2 (.v 4), none⟩, ⟨none, .mov (.v 1), none⟩, ⟨none, .mov (.v 2), none⟩, ⟨none, .call false f_impl_wholeSpace [(.r 0), (.r 1), (.r 2)], none⟩, ⟨none, .mov (.r 3), none⟩, ⟨none, .extract (.r 4) 0, none⟩, ⟨none, .extract (.r 4) 1, none⟩, ⟨some 7, .alloc t_impl_Space [(.nil false 1), (.nil true 3)], none⟩, ⟨none, .store 2 (.v 7) (.r 5), none⟩, ⟨some 8, .mov (.r 6), none⟩])
  (.seq (.seq (.region false [] [⟨none, .mov (.v 8), none⟩, ⟨none, .not (.r 0), none⟩, ⟨none, .mov (.r 1), none⟩, ⟨none, .faddr 0 (.v 4), some (2, false)⟩, ⟨none, .load false 1 (.r 3), some (2, false)⟩, ⟨none, .mov (.v 3), some (2, false)⟩, ⟨none, .call false f_impl_GoodMark [(.r 4), (.r 5)], some (2, false)⟩, ⟨none, .not (.r 6), some (2, false)⟩, ⟨some 10, .pick (.r 2) (.c (.bool true)) (.r 7), none⟩])
  (.cond (.v 10) (.seq (.region false [] [⟨some 5, .nilrow t_int true 1, none⟩, ⟨some 6, .mov (.c (.bool false)), none⟩])
  .ret) .skip))
  (.seq (.region false [] [⟨none, .load true 2 (.v 7), none⟩, ⟨none, .mov (.v 3), none⟩, ⟨none, .call false f_impl_Space_wayTo [(.r 0), (.r 1)], none⟩, ⟨none, .mov (.r 2), none⟩, ⟨none, .extract (.r 3) 0, none⟩, ⟨none, .extract (.r 3) 1, none⟩, ⟨some 9, .mov (.r 4), none⟩, ⟨some 8, .mov (.r 5), none⟩])
  (.seq (.seq (.region false [] [⟨none, .mov (.v 8), none⟩, ⟨none, .not (.r 0), none⟩, ⟨none, .mov (.r 1), none⟩, ⟨none, .mov (.v 9), some (2, false)⟩, ⟨none, .len false (.r 3), some (2, false)⟩, ⟨none, .bin false .gtr (.r 4) (.c (.int .i64 60)), some (2, false)⟩, ⟨some 11, .pick (.r 2) (.c (.bool true)) (.r 5), none⟩])
  (.cond (.v 11) (.seq (.region false [] [⟨some 5, .nilrow t_int true 1, none⟩, ⟨some 6, .mov (.c (.bool false)), none⟩])
  .ret) .skip))
  (.seq (.region false [] [⟨none, .mov (.v 9), none⟩, ⟨some 5, .mov (.r 0), none⟩, ⟨some 6, .mov (.c (.bool true)), none⟩])
  .ret)))))),
  [.v 5, .v 6]⟩
def ir_spec_l4Way : IFun := ⟨[0, 1, 2, 4, 5, 6, 7, 8, 10, 11, 12, 14, 20, 21, 22, 35, 42, 43, 44, 45, 59, 77, 79, 80, 81, 82, 101],
  (.seq (.region false [] [⟨some 2, .box t_impl_Space 2 (.v 0), none⟩, ⟨some 3, .nilrow t_int true 1, none⟩])
  (.seq (.region false [] [⟨none, .faddr 0 (.v 2), none⟩, ⟨none, .load false 1 (.r 0), none⟩, ⟨none, .len false (.r 1), none⟩, ⟨none, .mk t_int true 1 (.int .i64 0) (.r 2), none⟩, ⟨some 4, .mov (.r 3), none⟩])
  (.seq (.seq (.region false [] [⟨none, .mov (.v 4), none⟩, ⟨some 12, .len false (.r 0), none⟩, ⟨some 13, .mov (.c (.int .i64 0)), none⟩])
  (.block 0 (.loop [false, true, true, false, true, false, false, false, false, false, false, false, true, true, false, false, false, false, false, false, false, false, false, false, false, false, false] (.seq (.region false [] [⟨some 14, .bin false .lss (.v 13) (.v 12), none⟩])
  (.seq (.cond (.v 14) .skip (.exit 0))
  (.seq (.block 1 (.seq (.region false [] [⟨none, .mov (.v 13), none⟩, ⟨some 5, .mov (.r 0), none⟩])
  (.region false [] [⟨none, .mov (.v 4), none⟩, ⟨none, .mov (.v 5), none⟩, ⟨none, .iaddr 1 (.r 0) (.r 1), none⟩, ⟨none, .store 1 (.r 2) (.c (.int .i64 (-1))), none⟩])))
  (.region false [] [⟨none, .bin false .add (.v 13) (.c (.int .i64 1)), none⟩, ⟨some 13, .mov (.r 0), none⟩])))))))
  (.seq (.region false [] [⟨none, .mov (.v 4), none⟩, ⟨none, .mov (.v 1), none⟩, ⟨none, .iaddr 1 (.r 0) (.r 1), none⟩, ⟨none, .store 1 (.r 2) (.c (.int .i64 0)), none⟩])
  (.seq (.region false [] [⟨none, .mov (.v 1), none⟩, ⟨none, .bslice false t_int true 1 [(.r 0)], none⟩, ⟨some 6, .mov (.r 1), none⟩])
  (.seq (.block 2 (.loop [false, true, true, false, true, false, true, false, false, false, false, false, false, false, false, false, false, false, false, false, false, false, false, false, false, false, false] (.seq (.seq (.region false [] [⟨none, .mov (.v 6), none⟩, ⟨none, .len false (.r 0), none⟩, ⟨some 15, .bin false .gtr (.r 1) (.c (.int .i64 0)), none⟩])
  (.cond (.v 15) .skip (.exit 2)))
  (.block 3 (.seq (.region false [] [⟨none, .mov (.v 6), none⟩, ⟨none, .iaddr 1 (.r 0) (.c (.int .i64 0)), none⟩, ⟨none, .load false 1 (.r 1), none⟩, ⟨some 7, .mov (.r 2), none⟩])
  (.seq (.region false [] [⟨none, .mov (.v 6), none⟩, ⟨none, .slq 1 (.r 0) (.c (.int .i64 1)), none⟩, ⟨some 6, .mov (.r 1), none⟩])
  (.seq (.region false [] [⟨none, .faddr 1 (.v 2), none⟩, ⟨some 16, .ldf (.r 0), none⟩, ⟨some 17, .len false (.v 16), none⟩, ⟨some 18, .mov (.c (.int .i64 0)), none⟩])
  (.block 4 (.loop [false, true, true, false, true, false, true, true, false, false, false, false, false, false, false, false, true, true, true, false, false, false, false, false, false, false, false] (.seq (.region false [] [⟨some 19, .bin false .lss (.v 18) (.v 17), none⟩])
  (.seq (.cond (.v 19) .skip (.exit 4))
  (.seq (.block 5 (.seq (.region false [] [⟨none, .iaddr 3 (.v 16) (.v 18), none⟩, ⟨none, .load true 3 (.r 0), none⟩, ⟨some 8, .alloc t_impl_Arc [(.int .i64 0), (.int .i64 0), (.int .i64 0)], none⟩, ⟨none, .store 3 (.v 8) (.r 1), none⟩])
  (.seq (.region false [] [⟨none, .faddr 2 (.v 8), none⟩, ⟨none, .load false 1 (.r 0), none⟩, ⟨none, .mov (.v 7), none⟩, ⟨none, .bin false .eql (.r 1) (.r 2), none⟩, ⟨none, .mov (.r 3), none⟩, ⟨none, .mov (.v 4), some (4, true)⟩, ⟨none, .faddr 0 (.v 8), some (4, true)⟩, ⟨none, .load false 1 (.r 6), some (4, true)⟩, ⟨none, .iaddr 1 (.r 5) (.r 7), some (4, true)⟩, ⟨none, .load false 1 (.r 8), some (4, true)⟩, ⟨none, .bin false .lss (.r 9) (.c (.int .i64 0)), some (4, true)⟩, ⟨some 20, .pick (.r 4) (.r 10) (.c (.bool false)), none⟩])
  (.cond (.v 20) (.seq (.region true [] [⟨none, .mov (.v 4), none⟩, ⟨none, .faddr 0 (.v 8), none⟩, ⟨none, .load false 1 (.r 1), none⟩, ⟨none, .mov (.v 4), none⟩, ⟨none, .mov (.v 7), none⟩, ⟨none, .iaddr 1 (.r 3) (.r 4), none⟩, ⟨none, .load false 1 (.r 5), none⟩, ⟨none, .bin false .add (.r 6) (.c (.int .i64 1)), none⟩, ⟨none, .iaddr 1 (.r 0) (.r 2), none⟩, ⟨none, .store 1 (.r 8) (.r 7), none⟩])
  (.region false [] [⟨none, .mov (.v 6), none⟩, ⟨none, .faddr 0 (.v 8), none⟩, ⟨none, .load false 1 (.r 1), none⟩, ⟨none, .bslice false t_int true 1 [(.r 2)], none⟩, ⟨none, .apq t_int 1 (.r 0) (.r 3), none⟩, ⟨some 6, .mov (.r 4), none⟩])) .skip))))
  (.region false [] [⟨none, .bin false .add (.v 18) (.c (.int .i64 1)), none⟩, ⟨some 18, .mov (.r 0), none⟩])))))))))))))
  (.seq (.region false [] [⟨some 9, .nilrow t_int true 1, none⟩])
  (.seq (.region false [] [⟨some 10, .mov (.c (.int .i64 0)), none⟩])
  (.seq (.block 6 (.loop [false, true, true, false, true, false, false, false, false, true, true, false, false, false, false, false, false, false, false, false, false, false, false, false, false, false, false] (.seq (.seq (.region false [] [⟨none, .mov (.v 10), none⟩, ⟨none, .mov (.v 1), none⟩, ⟨some 21, .bin false .neq (.r 0) (.r 1), none⟩])
  (.cond (.v 21) .skip (.exit 6)))
  (.block 7 (.seq (.region false [] [⟨none, .faddr 1 (.v 2), none⟩, ⟨some 22, .ldf (.r 0), none⟩, ⟨some 23, .len false (.v 22), none⟩, ⟨some 24, .mov (.c (.int .i64 0)), none⟩])
  (.block 8 (.loop [false, true, true, false, true, false, false, false, false, true, true, false, false, false, false, false, false, false, false, false, false, false, true, true, true, false, false] (.seq (.region false [] [⟨some 25, .bin false .lss (.v 24) (.v 23), none⟩])
  (.seq (.cond (.v 25) .skip (.exit 8))
  (.seq (.block 9 (.seq (.region false [] [⟨none, .iaddr 3 (.v 22) (.v 24), none⟩, ⟨none, .load true 3 (.r 0), none⟩, ⟨some 11, .alloc t_impl_Arc [(.int .i64 0), (.int .i64 0), (.int .i64 0)], none⟩, ⟨none, .store 3 (.v 11) (.r 1), none⟩])
  (.seq (.region true [] [⟨none, .faddr 0 (.v 11), none⟩, ⟨none, .load false 1 (.r 0), none⟩, ⟨none, .mov (.v 10), none⟩, ⟨none, .bin false .eql (.r 1) (.r 2), none⟩, ⟨none, .mov (.r 3), none⟩, ⟨none, .mov (.v 4), some (4, true)⟩, ⟨none, .faddr 2 (.v 11), some (4, true)⟩, ⟨none, .load false 1 (.r 6), some (4, true)⟩, ⟨none, .iaddr 1 (.r 5) (.r 7), some (4, true)⟩, ⟨none, .load false 1 (.r 8), some (4, true)⟩, ⟨none, .mov (.v 4), some (4, true)⟩, ⟨none, .mov (.v 10), some (4, true)⟩, ⟨none, .iaddr 1 (.r 10) (.r 11), some (4, true)⟩, ⟨none, .load false 1 (.r 12), some (4, true)⟩, ⟨none, .bin false .sub (.r 13) (.c (.int .i64 1)), some (4, true)⟩, ⟨none, .bin false .eql (.r 9) (.r 14), some (4, true)⟩, ⟨some 26, .pick (.r 4) (.r 15) (.c (.bool false)), none⟩])
  (.cond (.v 26) (.seq (.region false [] [⟨none, .mov (.v 9), none⟩, ⟨none, .faddr 1 (.v 11), none⟩, ⟨none, .load false 1 (.r 1), none⟩, ⟨none, .bslice false t_int true 1 [(.r 2)], none⟩, ⟨none, .apq t_int 1 (.r 0) (.r 3), none⟩, ⟨some 9, .mov (.r 4), none⟩])
  (.seq (.region false [] [⟨none, .faddr 2 (.v 11), none⟩, ⟨none, .load false 1 (.r 0), none⟩, ⟨some 10, .mov (.r 1), none⟩])
  (.exit 8))) .skip))))
  (.region false [] [⟨none, .bin false .add (.v 24) (.c (.int .i64 1)), none⟩, ⟨some 24, .mov (.r 0), none⟩])))))))))))
  (.seq (.region false [] [⟨none, .mov (.v 9), none⟩, ⟨some 3, .mov (.r 0), none⟩])
  .ret)))))))))),
  [.v 3]⟩
def ir_spec_WayTo : IFun := ⟨[0, 1, 2, 3, 4, 8, 9, 10, 11, 12, 28, 37],
  (.seq (.region false [] [⟨some 4, .box t_impl_Net 2 (.v 0), none⟩, ⟨some 5, .nilrow t_int true 1, none⟩, ⟨some 6, .mov (.c (.bool false)), none⟩])
  (.seq (.region false [] [⟨none, .load true 2 (.v 4), none⟩, ⟨none, .mov (.v 1), none⟩, ⟨none, .mov (.v 2), none⟩, ⟨none, .call false f_spec_l4All [(.r 0), (.r 1), (.r 2)], none⟩, ⟨none, .mov (.r 3), none⟩, ⟨none, .extract (.r 4) 0, none⟩, ⟨none, .extract (.r 4) 1, none⟩, ⟨some 7, .alloc t_impl_Space [(.nil false 1), (.nil true 3)], none⟩, ⟨none, .store 2 (.v 7) (.r 5), none⟩, ⟨some 8, .mov (.r 6), none⟩])
  (.seq (.seq (.region false [] [⟨none, .mov (.v 8), none⟩, ⟨none, .not (.r 0), none⟩, ⟨none, .mov (.r 1), none⟩, ⟨none, .faddr 0 (.v 7), some (2, false)⟩, ⟨none, .load false 1 (.r 3), some (2, false)⟩, ⟨none, .mov (.v 3), some (2, false)⟩, ⟨none, .call false f_spec_l4Find [(.r 4), (.r 5)], some (2, false)⟩, ⟨none, .bin false .lss (.r 6) (.c (.int .i64 0)), some (2, false)⟩, ⟨some 10, .pick (.r 2) (.c (.bool true)) (.r 7), none⟩])
  (.cond (.v 10) (.seq (.region false [] [⟨some 5, .nilrow t_int true 1, none⟩, ⟨some 6, .mov (.c (.bool false)), none⟩])
  .ret) .skip))
  (.seq (.region true [(4, 0)] [⟨none, .load true 2 (.v 7), none⟩, ⟨none, .faddr 0 (.v 7), none⟩, ⟨none, .load false 1 (.r 1), none⟩, ⟨none, .mov (.v 3), none⟩, ⟨none, .call false f_spec_l4Find [(.r 2), (.r 3)], none⟩, ⟨none, .call false f_spec_l4Way [(.r 0), (.r 4)], none⟩, ⟨some 9, .mov (.r 5), none⟩])
  (.seq (.seq (.region false [] [⟨none, .mov (.v 9), none⟩, ⟨none, .len false (.r 0), none⟩, ⟨some 11, .bin false .gtr (.r 1) (.c (.int .i64 60)), none⟩])
  (.cond (.v 11) (.seq (.region false [] [⟨some 5, .nilrow t_int true 1, none⟩, ⟨some 6, .mov (.c (.bool false)), none⟩])
  .ret) .skip))
  (.seq (.region false [] [⟨none, .mov (.v 9), none⟩, ⟨some 5, .mov (.r 0), none⟩, ⟨some 6, .mov (.c (.bool true)), none⟩])
  .ret)))))),
  [.v 5, .v 6]⟩
def ir_laws_sameInts : IFun := ⟨[0, 1, 4, 5, 10, 12, 13, 14, 24],
  (.seq (.region false [] [⟨some 2, .mov (.c (.bool false)), none⟩])
  (.seq (.seq (.region false [] [⟨none, .mov (.v 0), none⟩, ⟨none, .len false (.r 0), none⟩, ⟨none, .mov (.v 1), none⟩, ⟨none, .len false (.r 2), none⟩, ⟨some 4, .bin false .neq (.r 1) (.r 3), none⟩])
  (.cond (.v 4) (.seq (.region false [] [⟨some 2, .mov (.c (.bool false)), none⟩])
  .ret) .skip))
  (.seq (.seq (.region false [] [⟨none, .mov (.v 0), none⟩, ⟨some 5, .len false (.r 0), none⟩, ⟨some 6, .mov (.c (.int .i64 0)), none⟩])
  (.block 0 (.loop [true, true, false, false, false, true, true, false, false] (.seq (.region false [] [⟨some 7, .bin false .lss (.v 6) (.v 5), none⟩])
  (.seq (.cond (.v 7) .skip (.exit 0))
  (.seq (.block 1 (.seq (.region false [] [⟨none, .mov (.v 6), none⟩, ⟨some 3, .mov (.r 0), none⟩])
  (.seq (.region true [] [⟨none, .mov (.v 0), none⟩, ⟨none, .mov (.v 3), none⟩, ⟨none, .iaddr 1 (.r 0) (.r 1), none⟩, ⟨none, .load false 1 (.r 2), none⟩, ⟨none, .mov (.v 1), none⟩, ⟨none, .mov (.v 3), none⟩, ⟨none, .iaddr 1 (.r 4) (.r 5), none⟩, ⟨none, .load false 1 (.r 6), none⟩, ⟨some 8, .bin false .neq (.r 3) (.r 7), none⟩])
  (.cond (.v 8) (.seq (.region false [] [⟨some 2, .mov (.c (.bool false)), none⟩])
  .ret) .skip))))
  (.region false [] [⟨none, .bin false .add (.v 6) (.c (.int .i64 1)), none⟩, ⟨some 6, .mov (.r 0), none⟩])))))))
  (.seq (.region false [] [⟨some 2, .mov (.c (.bool true)), none⟩])
  .ret)))),
  [.v 2]⟩
def ir_impl_areTrans : IFun := ⟨[0, 1, 2, 4],
  (.seq (.region false [] [⟨some 2, .box t_impl_Net 2 (.v 0), none⟩, ⟨some 3, .mov (.c (.bool false)), none⟩])
  (.seq (.region false [] [⟨none, .mov (.v 1), none⟩, ⟨none, .len false (.r 0), none⟩, ⟨none, .bin false .leq (.r 1) (.c (.int .i64 60)), none⟩, ⟨none, .mov (.r 2), none⟩, ⟨none, .mov (.v 1), some (3, true)⟩, ⟨none, .faddr 1 (.v 2), some (3, true)⟩, ⟨none, .load false 1 (.r 5), some (3, true)⟩, ⟨none, .len false (.r 6), some (3, true)⟩, ⟨none, .bin false .sub (.r 7) (.c (.int .i64 1)), some (3, true)⟩, ⟨none, .call false f_impl_allWithin [(.r 4), (.c (.int .i64 0)), (.r 8)], some (3, true)⟩, ⟨none, .pick (.r 3) (.r 9) (.c (.bool false)), none⟩, ⟨some 3, .mov (.r 10), none⟩])
  .ret)),
  [.v 3]⟩
def ir_impl_isTrans : IFun := ⟨[0, 1, 2, 4],
  (.seq (.region false [] [⟨some 2, .box t_impl_Net 2 (.v 0), none⟩, ⟨some 3, .mov (.c (.bool false)), none⟩])
  (.seq (.region false [] [⟨none, .mov (.v 1), none⟩, ⟨none, .faddr 1 (.v 2), none⟩, ⟨none, .load false 1 (.r 1), none⟩, ⟨none, .len false (.r 2), none⟩, ⟨none, .bin false .sub (.r 3) (.c (.int .i64 1)), none⟩, ⟨none, .call false f_impl_within [(.r 0), (.c (.int .i64 0)), (.r 4)], none⟩, ⟨some 3, .mov (.r 5), none⟩])
  .ret)),
  [.v 3]⟩
def ir_impl_checkedMark : IFun := ⟨[0, 2, 3, 6],
  (.seq (.region false [] [⟨some 1, .nilrow t_int true 1, none⟩, ⟨some 2, .mov (.c (.bool false)), none⟩])
  (.seq (.seq (.region false [] [⟨none, .mov (.v 0), none⟩, ⟨none, .call false f_impl_allWithin [(.r 0), (.c (.int .i64 0)), (.c (.int .i64 50))], none⟩, ⟨some 3, .not (.r 1), none⟩])
  (.cond (.v 3) (.seq (.region false [] [⟨some 1, .nilrow t_int true 1, none⟩, ⟨some 2, .mov (.c (.bool false)), none⟩])
  .ret) .skip))
  (.seq (.region false [] [⟨none, .mov (.v 0), none⟩, ⟨some 1, .mov (.r 0), none⟩, ⟨some 2, .mov (.c (.bool true)), none⟩])
  .ret))),
  [.v 1, .v 2]⟩
def ir_impl_Fire : IFun := ⟨[0, 1, 2, 3, 6, 7, 27],
  (.seq (.region false [] [⟨some 3, .box t_impl_Net 2 (.v 0), none⟩, ⟨some 4, .nilrow t_int true 1, none⟩, ⟨some 5, .mov (.c (.bool false)), none⟩])
  (.seq (.seq (.region false [] [⟨none, .load true 2 (.v 3), none⟩, ⟨none, .mov (.v 1), none⟩, ⟨none, .call false f_impl_isMarked [(.r 0), (.r 1)], none⟩, ⟨none, .not (.r 2), none⟩, ⟨none, .mov (.r 3), none⟩, ⟨none, .load true 2 (.v 3), some (4, false)⟩, ⟨none, .mov (.v 2), some (4, false)⟩, ⟨none, .call false f_impl_isTrans [(.r 5), (.r 6)], some (4, false)⟩, ⟨none, .not (.r 7), some (4, false)⟩, ⟨none, .pick (.r 4) (.c (.bool true)) (.r 8), none⟩, ⟨none, .mov (.r 9), none⟩, ⟨none, .faddr 1 (.v 3), some (10, false)⟩, ⟨none, .load false 1 (.r 11), some (10, false)⟩, ⟨none, .mov (.v 2), some (10, false)⟩, ⟨none, .iaddr 3 (.r 12) (.r 13), some (10, false)⟩, ⟨none, .load true 3 (.r 14), some (10, false)⟩, ⟨none, .mov (.v 1), some (10, false)⟩, ⟨none, .call false f_impl_isEnabled [(.r 15), (.r 16)], some (10, false)⟩, ⟨none, .not (.r 17), some (10, false)⟩, ⟨some 6, .pick (.r 10) (.c (.bool true)) (.r 18), none⟩])
  (.cond (.v 6) (.seq (.region false [] [⟨some 4, .nilrow t_int true 1, none⟩, ⟨some 5, .mov (.c (.bool false)), none⟩])
  .ret) .skip))
  (.seq (.region false [] [⟨none, .faddr 1 (.v 3), none⟩, ⟨none, .load false 1 (.r 0), none⟩, ⟨none, .mov (.v 2), none⟩, ⟨none, .iaddr 3 (.r 1) (.r 2), none⟩, ⟨none, .load true 3 (.r 3), none⟩, ⟨none, .mov (.v 1), none⟩, ⟨none, .call false f_impl_fired [(.r 4), (.r 5)], none⟩, ⟨none, .call false f_impl_checkedMark [(.r 6)], none⟩, ⟨none, .extract (.r 7) 0, none⟩, ⟨none, .extract (.r 7) 1, none⟩, ⟨some 4, .mov (.r 8), none⟩, ⟨some 5, .mov (.r 9), none⟩])
  .ret))),
  [.v 4, .v 5]⟩
def ir_impl_FireAll : IFun := ⟨[0, 1, 2, 3, 6, 7, 8, 9, 10, 11, 12, 22, 25, 26, 27, 28, 40],
  (.seq (.region false [] [⟨some 3, .box t_impl_Net 2 (.v 0), none⟩, ⟨some 4, .nilrow t_int true 1, none⟩, ⟨some 5, .mov (.c (.int .i64 0)), none⟩, ⟨some 6, .mov (.c (.bool false)), none⟩])
  (.seq (.seq (.region false [] [⟨none, .load true 2 (.v 3), none⟩, ⟨none, .mov (.v 1), none⟩, ⟨none, .call false f_impl_isMarked [(.r 0), (.r 1)], none⟩, ⟨none, .not (.r 2), none⟩, ⟨none, .mov (.r 3), none⟩, ⟨none, .load true 2 (.v 3), some (4, false)⟩, ⟨none, .mov (.v 2), some (4, false)⟩, ⟨none, .call false f_impl_areTrans [(.r 5), (.r 6)], some (4, false)⟩, ⟨none, .not (.r 7), some (4, false)⟩, ⟨some 11, .pick (.r 4) (.c (.bool true)) (.r 8), none⟩])
  (.cond (.v 11) (.seq (.region false [] [⟨some 4, .nilrow t_int true 1, none⟩, ⟨some 5, .mov (.c (.int .i64 0)), none⟩, ⟨some 6, .mov (.c (.bool false)), none⟩])
  .ret) .skip))
  (.seq (.region false [] [⟨none, .mov (.v 1), none⟩, ⟨none, .call false f_slices_Clone_sl_int_int [(.r 0)], none⟩, ⟨some 1, .mov (.r 1), none⟩])
  (.seq (.seq (.region false [] [⟨some 12, .mov (.v 2), none⟩, ⟨some 13, .len false (.v 12), none⟩, ⟨some 14, .mov (.c (.int .i64 0)), none⟩])
  (.block 0 (.loop [false, true, true, true, false, false, false, false, false, false, false, false, true, true, true, false, false] (.seq (.region false [] [⟨some 15, .bin false .lss (.v 14) (.v 13), none⟩])
  (.seq (.cond (.v 15) .skip (.exit 0))
  (.seq (.block 1 (.seq (.region false [] [⟨none, .mov (.v 14), none⟩, ⟨none, .iaddr 1 (.v 12) (.v 14), none⟩, ⟨none, .load false 1 (.r 1), none⟩, ⟨some 7, .mov (.r 0), none⟩, ⟨some 8, .mov (.r 2), none⟩])
  (.seq (.region false [] [⟨none, .load true 2 (.v 3), none⟩, ⟨none, .mov (.v 1), none⟩, ⟨none, .mov (.v 8), none⟩, ⟨none, .call false f_impl_Fire [(.r 0), (.r 1), (.r 2)], none⟩, ⟨none, .mov (.r 3), none⟩, ⟨none, .extract (.r 4) 0, none⟩, ⟨none, .extract (.r 4) 1, none⟩, ⟨some 9, .mov (.r 5), none⟩, ⟨some 10, .mov (.r 6), none⟩])
  (.seq (.seq (.region false [] [⟨none, .mov (.v 10), none⟩, ⟨some 16, .not (.r 0), none⟩])
  (.cond (.v 16) (.seq (.region false [] [⟨none, .mov (.v 1), none⟩, ⟨none, .mov (.v 7), none⟩, ⟨some 4, .mov (.r 0), none⟩, ⟨some 5, .mov (.r 1), none⟩, ⟨some 6, .mov (.c (.bool true)), none⟩])
  .ret) .skip))
  (.region false [] [⟨none, .mov (.v 9), none⟩, ⟨some 1, .mov (.r 0), none⟩])))))
  (.region false [] [⟨none, .bin false .add (.v 14) (.c (.int .i64 1)), none⟩, ⟨some 14, .mov (.r 0), none⟩])))))))
  (.seq (.region false [] [⟨none, .mov (.v 1), none⟩, ⟨none, .mov (.v 2), none⟩, ⟨none, .len false (.r 1), none⟩, ⟨some 4, .mov (.r 0), none⟩, ⟨some 5, .mov (.r 2), none⟩, ⟨some 6, .mov (.c (.bool true)), none⟩])
  .ret))))),
  [.v 4, .v 5, .v 6]⟩
def ir_laws_FnHome : IFun := ⟨[0, 1, 4, 5, 6, 7, 8, 9, 10, 11, 12, 13, 14, 15, 16, 17, 18, 19, 20, 21, 22, 23, 24, 25, 26, 27, 30, 101, 133, 134],
  (.seq (.region false [] [⟨some 2, .mov (.c (.bool false)), none⟩])
  (.seq (.seq (.region false [] [⟨none, .mov (.v 0), none⟩, ⟨none, .mov (.v 1), none⟩, ⟨some 26, .call false f_laws_big [(.r 0), (.r 1)], none⟩])
  (.cond (.v 26) (.seq (.region false [] [⟨some 2, .mov (.c (.bool true)), none⟩])
  .ret) .skip))
  (.seq (.region false [] [⟨none, .mov (.v 0), none⟩, ⟨none, .call false f_spec_DrawIsHome [(.r 0)], none⟩, ⟨none, .mov (.r 1), none⟩, ⟨none, .extract (.r 2) 0, none⟩, ⟨none, .extract (.r 2) 1, none⟩, ⟨none, .extract (.r 2) 2, none⟩, ⟨none, .extract (.r 2) 3, none⟩, ⟨some 3, .alloc t_impl_Net [(.int .i64 0), (.nil false 3)], none⟩, ⟨none, .store 2 (.v 3) (.r 3), none⟩, ⟨some 4, .mov (.r 4), none⟩, ⟨some 5, .mov (.r 5), none⟩, ⟨some 6, .mov (.r 6), none⟩])
  (.seq (.region false [] [⟨none, .load true 2 (.v 3), none⟩, ⟨none, .mov (.v 4), none⟩, ⟨none, .mov (.v 5), none⟩, ⟨none, .mov (.v 6), none⟩, ⟨none, .call false f_impl_IsHome [(.r 0), (.r 1), (.r 2), (.r 3)], none⟩, ⟨none, .mov (.r 4), none⟩, ⟨none, .extract (.r 5) 0, none⟩, ⟨none, .extract (.r 5) 1, none⟩, ⟨some 7, .mov (.r 6), none⟩, ⟨some 8, .mov (.r 7), none⟩])
  (.seq (.region false [] [⟨none, .load true 2 (.v 3), none⟩, ⟨none, .mov (.v 4), none⟩, ⟨none, .mov (.v 5), none⟩, ⟨none, .mov (.v 6), none⟩, ⟨none, .call false f_spec_IsHome [(.r 0), (.r 1), (.r 2), (.r 3)], none⟩, ⟨none, .mov (.r 4), none⟩, ⟨none, .extract (.r 5) 0, none⟩, ⟨none, .extract (.r 5) 1, none⟩, ⟨some 9, .mov (.r 6), none⟩, ⟨some 10, .mov (.r 7), none⟩])
  (.seq (.region false [] [⟨none, .load true 2 (.v 3), none⟩, ⟨none, .mov (.v 4), none⟩, ⟨none, .mov (.v 5), none⟩, ⟨none, .mov (.v 6), none⟩, ⟨none, .call false f_impl_CanCome [(.r 0), (.r 1), (.r 2), (.r 3)], none⟩, ⟨none, .mov (.r 4), none⟩, ⟨none, .extract (.r 5) 0, none⟩, ⟨none, .extract (.r 5) 1, none⟩, ⟨some 11, .mov (.r 6), none⟩, ⟨some 12, .mov (.r 7), none⟩])
  (.seq (.region false [] [⟨none, .load true 2 (.v 3), none⟩, ⟨none, .mov (.v 4), none⟩, ⟨none, .mov (.v 5), none⟩, ⟨none, .mov (.v 6), none⟩, ⟨none, .call false f_spec_CanCome [(.r 0), (.r 1), (.r 2), (.r 3)], none⟩, ⟨none, .mov (.r 4), none⟩, ⟨none, .extract (.r 5) 0, none⟩, ⟨none, .extract (.r 5) 1, none⟩, ⟨some 13, .mov (.r 6), none⟩, ⟨some 14, .mov (.r 7), none⟩])
  (.seq (.seq (.region false [] [⟨none, .mov (.v 8), none⟩, ⟨none, .mov (.v 10), none⟩, ⟨none, .bin true .neq (.r 0) (.r 1), none⟩, ⟨none, .mov (.r 2), none⟩, ⟨none, .mov (.v 7), some (3, false)⟩, ⟨none, .mov (.v 9), some (3, false)⟩, ⟨none, .bin true .neq (.r 4) (.r 5), some (3, false)⟩, ⟨none, .pick (.r 3) (.c (.bool true)) (.r 6), none⟩, ⟨none, .mov (.r 7), none⟩, ⟨none, .mov (.v 12), some (8, false)⟩, ⟨none, .mov (.v 14), some (8, false)⟩, ⟨none, .bin true .neq (.r 9) (.r 10), some (8, false)⟩, ⟨none, .pick (.r 8) (.c (.bool true)) (.r 11), none⟩, ⟨none, .mov (.r 12), none⟩, ⟨none, .mov (.v 11), some (13, false)⟩, ⟨none, .mov (.v 13), some (13, false)⟩, ⟨none, .bin true .neq (.r 14) (.r 15), some (13, false)⟩, ⟨none, .pick (.r 13) (.c (.bool true)) (.r 16), none⟩, ⟨none, .mov (.r 17), none⟩, ⟨none, .mov (.v 8), some (18, false)⟩, ⟨none, .mov (.r 19), some (18, false)⟩, ⟨none, .mov (.v 7), some (20, true)⟩, ⟨none, .pick (.r 20) (.r 21) (.c (.bool false)), some (18, false)⟩, ⟨none, .mov (.r 22), some (18, false)⟩, ⟨none, .mov (.v 12), some (23, true)⟩, ⟨none, .not (.r 24), some (23, true)⟩, ⟨none, .mov (.r 25), some (23, true)⟩, ⟨none, .mov (.v 11), some (26, false)⟩, ⟨none, .not (.r 27), some (26, false)⟩, ⟨none, .pick (.r 26) (.c (.bool true)) (.r 28), some (23, true)⟩, ⟨none, .pick (.r 23) (.r 29) (.c (.bool false)), some (18, false)⟩, ⟨some 27, .pick (.r 18) (.c (.bool true)) (.r 30), none⟩])
  (.cond (.v 27) (.seq (.region false [] [⟨some 2, .mov (.c (.bool false)), none⟩])
  .ret) .skip))
  (.seq (.region false [] [⟨none, .mov (.v 1), none⟩, ⟨none, .call false f_spec_DrawWayTo [(.r 0)], none⟩, ⟨none, .mov (.r 1), none⟩, ⟨none, .extract (.r 2) 0, none⟩, ⟨none, .extract (.r 2) 1, none⟩, ⟨none, .extract (.r 2) 2, none⟩, ⟨none, .extract (.r 2) 3, none⟩, ⟨some 15, .alloc t_impl_Net [(.int .i64 0), (.nil false 3)], none⟩, ⟨none, .store 2 (.v 15) (.r 3), none⟩, ⟨some 16, .mov (.r 4), none⟩, ⟨some 17, .mov (.r 5), none⟩, ⟨some 18, .mov (.r 6), none⟩])
  (.seq (.region false [] [⟨none, .load true 2 (.v 15), none⟩, ⟨none, .mov (.v 16), none⟩, ⟨none, .mov (.v 17), none⟩, ⟨none, .mov (.v 18), none⟩, ⟨none, .call false f_impl_WayTo [(.r 0), (.r 1), (.r 2), (.r 3)], none⟩, ⟨none, .mov (.r 4), none⟩, ⟨none, .extract (.r 5) 0, none⟩, ⟨none, .extract (.r 5) 1, none⟩, ⟨some 19, .mov (.r 6), none⟩, ⟨some 20, .mov (.r 7), none⟩])
  (.seq (.region false [] [⟨none, .load true 2 (.v 15), none⟩, ⟨none, .mov (.v 16), none⟩, ⟨none, .mov (.v 17), none⟩, ⟨none, .mov (.v 18), none⟩, ⟨none, .call false f_spec_WayTo [(.r 0), (.r 1), (.r 2), (.r 3)], none⟩, ⟨none, .mov (.r 4), none⟩, ⟨none, .extract (.r 5) 0, none⟩, ⟨none, .extract (.r 5) 1, none⟩, ⟨some 21, .mov (.r 6), none⟩, ⟨some 22, .mov (.r 7), none⟩])
  (.seq (.seq (.region false [] [⟨none, .mov (.v 20), none⟩, ⟨none, .mov (.v 22), none⟩, ⟨none, .bin true .neq (.r 0) (.r 1), none⟩, ⟨none, .mov (.r 2), none⟩, ⟨none, .mov (.v 19), some (3, false)⟩, ⟨none, .mov (.v 21), some (3, false)⟩, ⟨none, .call false f_laws_sameInts [(.r 4), (.r 5)], some (3, false)⟩, ⟨none, .not (.r 6), some (3, false)⟩, ⟨some 28, .pick (.r 3) (.c (.bool true)) (.r 7), none⟩])
  (.cond (.v 28) (.seq (.region false [] [⟨some 2, .mov (.c (.bool false)), none⟩])
  .ret) .skip))
  (.seq (.seq (.region false [] [⟨some 29, .mov (.v 20), none⟩])
  (.cond (.v 29) (.seq (.region false [] [⟨none, .load true 2 (.v 15), none⟩, ⟨none, .mov (.v 16), none⟩, ⟨none, .mov (.v 19), none⟩, ⟨none, .call false f_impl_FireAll [(.r 0), (.r 1), (.r 2)], none⟩, ⟨none, .mov (.r 3), none⟩, ⟨none, .extract (.r 4) 0, none⟩, ⟨none, .extract (.r 4) 1, none⟩, ⟨none, .extract (.r 4) 2, none⟩, ⟨some 23, .mov (.r 5), none⟩, ⟨some 24, .mov (.r 6), none⟩, ⟨some 25, .mov (.r 7), none⟩])
  (.seq (.region false [] [⟨none, .mov (.v 25), none⟩, ⟨none, .mov (.r 0), none⟩, ⟨none, .mov (.v 24), some (1, true)⟩, ⟨none, .mov (.v 19), some (1, true)⟩, ⟨none, .len false (.r 3), some (1, true)⟩, ⟨none, .bin false .eql (.r 2) (.r 4), some (1, true)⟩, ⟨none, .pick (.r 1) (.r 5) (.c (.bool false)), none⟩, ⟨none, .mov (.r 6), none⟩, ⟨none, .mov (.v 23), some (7, true)⟩, ⟨none, .mov (.v 18), some (7, true)⟩, ⟨none, .call false f_laws_sameInts [(.r 8), (.r 9)], some (7, true)⟩, ⟨none, .pick (.r 7) (.r 10) (.c (.bool false)), none⟩, ⟨some 2, .mov (.r 11), none⟩])
  .ret)) .skip))
  (.seq (.region false [] [⟨some 2, .mov (.c (.bool true)), none⟩])
  .ret)))))))))))))),
  [.v 2]⟩
def tbl : List (FuncId × IFun) := [(f_laws_big, ir_laws_big), (f_spec_l1Cur_next, ir_spec_l1Cur_next), (f_spec_l1Cur_pick, ir_spec_l1Cur_pick), (f_spec_l1Cur_one, ir_spec_l1Cur_one), (f_spec_l1Put, ir_spec_l1Put), (f_spec_l1Cur_grow, ir_spec_l1Cur_grow), (f_spec_l1Cur_someOf, ir_spec_l1Cur_someOf), (f_spec_l1Cur_among, ir_spec_l1Cur_among), (f_spec_l1Cur_flow, ir_spec_l1Cur_flow), (f_spec_l1In, ir_spec_l1In), (f_spec_l1Places, ir_spec_l1Places), (f_spec_l1Rising, ir_spec_l1Rising), (f_spec_GoodNet, ir_spec_GoodNet), (f_spec_l3Forward, ir_spec_l3Forward), (f_spec_l3Back, ir_spec_l3Back), (f_spec_l3Both, ir_spec_l3Both), (f_spec_OnWay, ir_spec_OnWay), (f_spec_l1Has, ir_spec_l1Has), (f_spec_GoodFlow, ir_spec_GoodFlow), (f_spec_l3One, ir_spec_l3One), (f_spec_StartOf, ir_spec_StartOf), (f_spec_l1Cur_net, ir_spec_l1Cur_net), (f_spec_l1Most, ir_spec_l1Most), (f_spec_l1Cur_markOf, ir_spec_l1Cur_markOf), (f_spec_l1Cur_walked, ir_spec_l1Cur_walked), (f_spec_l1Cur_budget, ir_spec_l1Cur_budget), (f_spec_l1Own, ir_spec_l1Own), (f_spec_l1All, ir_spec_l1All), (f_spec_GoodMark, ir_spec_GoodMark), (f_spec_l2Marked, ir_spec_l2Marked), (f_spec_l2Can, ir_spec_l2Can), (f_spec_l2Enabled, ir_spec_l2Enabled), (f_spec_Enabled, ir_spec_Enabled), (f_spec_l2Fire, ir_spec_l2Fire), (f_spec_Fire, ir_spec_Fire), (f_spec_l1Cur_metMark, ir_spec_l1Cur_metMark), (f_spec_DrawWayTo, ir_spec_DrawWayTo), (f_spec_DrawIsHome, ir_spec_DrawIsHome), (f_impl_within, ir_impl_within), (f_impl_increasing, ir_impl_increasing), (f_impl_allWithin, ir_impl_allWithin), (f_impl_arePlaces, ir_impl_arePlaces), (f_impl_GoodNet_1, ir_impl_GoodNet_1), (f_slices_IndexFunc_sl_impl_Trans_impl_Trans, ir_slices_IndexFunc_sl_impl_Trans_impl_Trans), (f_slices_ContainsFunc_sl_impl_Trans_impl_Trans, ir_slices_ContainsFunc_sl_impl_Trans_impl_Trans), (f_impl_GoodNet, ir_impl_GoodNet), (f_impl_GoodMark, ir_impl_GoodMark), (f_impl_isMarked, ir_impl_isMarked), (f_impl_isEnabled_1, ir_impl_isEnabled_1), (f_slices_IndexFunc_sl_int_int, ir_slices_IndexFunc_sl_int_int), (f_slices_ContainsFunc_sl_int_int, ir_slices_ContainsFunc_sl_int_int), (f_impl_isEnabled, ir_impl_isEnabled), (f_impl_enabled, ir_impl_enabled), (f_impl_fired, ir_impl_fired), (f_slices_Equal_sl_int_int, ir_slices_Equal_sl_int_int), (f_impl_Space_find_1, ir_impl_Space_find_1), (f_slices_IndexFunc_sl_sl_int_sl_int, ir_slices_IndexFunc_sl_sl_int_sl_int), (f_impl_Space_find, ir_impl_Space_find), (f_impl_explore, ir_impl_explore), (f_impl_Explore, ir_impl_Explore), (f_impl_wholeSpace, ir_impl_wholeSpace), (f_impl_Space_leadingTo, ir_impl_Space_leadingTo), (f_slices_Index_sl_bool_bool, ir_slices_Index_sl_bool_bool), (f_slices_Contains_sl_bool_bool, ir_slices_Contains_sl_bool_bool), (f_impl_IsHome, ir_impl_IsHome), (f_spec_l4Asked, ir_spec_l4Asked), (f_spec_l1Same, ir_spec_l1Same), (f_spec_l4Find, ir_spec_l4Find), (f_spec_l4Explore, ir_spec_l4Explore), (f_spec_Explore, ir_spec_Explore), (f_spec_l4All, ir_spec_l4All), (f_spec_l4To, ir_spec_l4To), (f_spec_l4Everywhere, ir_spec_l4Everywhere), (f_spec_IsHome, ir_spec_IsHome), (f_impl_CanCome, ir_impl_CanCome), (f_spec_CanCome, ir_spec_CanCome), (f_impl_Space_wayTo_1, ir_impl_Space_wayTo_1), (f_slices_IndexFunc_sl_impl_Arc_impl_Arc, ir_slices_IndexFunc_sl_impl_Arc_impl_Arc), (f_slices_Reverse_sl_int_int, ir_slices_Reverse_sl_int_int), (f_impl_Space_wayTo, ir_impl_Space_wayTo), (f_impl_WayTo, ir_impl_WayTo), (f_spec_l4Way, ir_spec_l4Way), (f_spec_WayTo, ir_spec_WayTo), (f_laws_sameInts, ir_laws_sameInts), (f_impl_areTrans, ir_impl_areTrans), (f_impl_isTrans, ir_impl_isTrans), (f_impl_checkedMark, ir_impl_checkedMark), (f_impl_Fire, ir_impl_Fire), (f_impl_FireAll, ir_impl_FireAll), (f_laws_FnHome, ir_laws_FnHome)]
def F (f : FuncId) : Option IFun := (tbl.find? fun p => p.1 == f).map (·.2)
def exts : List (FuncId × (List PV → Option PV)) := [(f_slices_Clone_sl_int_int, ext_slices_Clone_sl_int_int)]
def ext (f : FuncId) : Option (List PV → Option PV) := (exts.find? fun p => p.1 == f).map (·.2)
noncomputable def C : Orc := lim F ext
theorem C_laws_big {args : List PV} {M : List Blk} {r : PV × List Blk} (h : W C M.length ir_laws_big.body ⟨start ir_laws_big args, M⟩ (Lv M.length ir_laws_big.results r)) : C f_laws_big args M = some r := call_of rfl rfl h
theorem E_spec_l1Cur_next {args : List PV} {M : List Blk} {P : PV × List Blk → Prop} (h : W C M.length ir_spec_l1Cur_next.body ⟨start ir_spec_l1Cur_next args, M⟩ (Le' M.length ir_spec_l1Cur_next.results P)) : Lw (C f_spec_l1Cur_next args M) P := call_ex rfl rfl h
theorem C_spec_l1Cur_next {args : List PV} {M : List Blk} {r : PV × List Blk} (h : W C M.length ir_spec_l1Cur_next.body ⟨start ir_spec_l1Cur_next args, M⟩ (Lv M.length ir_spec_l1Cur_next.results r)) : C f_spec_l1Cur_next args M = some r := call_of rfl rfl h
theorem E_spec_l1Cur_pick {args : List PV} {M : List Blk} {P : PV × List Blk → Prop} (h : W C M.length ir_spec_l1Cur_pick.body ⟨start ir_spec_l1Cur_pick args, M⟩ (Le' M.length ir_spec_l1Cur_pick.results P)) : Lw (C f_spec_l1Cur_pick args M) P := call_ex rfl rfl h
theorem C_spec_l1Cur_pick {args : List PV} {M : List Blk} {r : PV × List Blk} (h : W C M.length ir_spec_l1Cur_pick.body ⟨start ir_spec_l1Cur_pick args, M⟩ (Lv M.length ir_spec_l1Cur_pick.results r)) : C f_spec_l1Cur_pick args M = some r := call_of rfl rfl h
theorem E_spec_l1Cur_one {args : List PV} {M : List Blk} {P : PV × List Blk → Prop} (h : W C M.length ir_spec_l1Cur_one.body ⟨start ir_spec_l1Cur_one args, M⟩ (Le' M.length ir_spec_l1Cur_one.results P)) : Lw (C f_spec_l1Cur_one args M) P := call_ex rfl rfl h
theorem C_spec_l1Cur_one {args : List PV} {M : List Blk} {r : PV × List Blk} (h : W C M.length ir_spec_l1Cur_one.body ⟨start ir_spec_l1Cur_one args, M⟩ (Lv M.length ir_spec_l1Cur_one.results r)) : C f_spec_l1Cur_one args M = some r := call_of rfl rfl h
theorem E_spec_l1Put {args : List PV} {M : List Blk} {P : PV × List Blk → Prop} (h : W C M.length ir_spec_l1Put.body ⟨start ir_spec_l1Put args, M⟩ (Le' M.length ir_spec_l1Put.results P)) : Lw (C f_spec_l1Put args M) P := call_ex rfl rfl h
theorem C_spec_l1Put {args : List PV} {M : List Blk} {r : PV × List Blk} (h : W C M.length ir_spec_l1Put.body ⟨start ir_spec_l1Put args, M⟩ (Lv M.length ir_spec_l1Put.results r)) : C f_spec_l1Put args M = some r := call_of rfl rfl h
theorem E_spec_l1Cur_grow {args : List PV} {M : List Blk} {P : PV × List Blk → Prop} (h : W C M.length ir_spec_l1Cur_grow.body ⟨start ir_spec_l1Cur_grow args, M⟩ (Le' M.length ir_spec_l1Cur_grow.results P)) : Lw (C f_spec_l1Cur_grow args M) P := call_ex rfl rfl h
theorem C_spec_l1Cur_grow {args : List PV} {M : List Blk} {r : PV × List Blk} (h : W C M.length ir_spec_l1Cur_grow.body ⟨start ir_spec_l1Cur_grow args, M⟩ (Lv M.length ir_spec_l1Cur_grow.results r)) : C f_spec_l1Cur_grow args M = some r := call_of rfl rfl h
theorem E_spec_l1Cur_someOf {args : List PV} {M : List Blk} {P : PV × List Blk → Prop} (h : W C M.length ir_spec_l1Cur_someOf.body ⟨start ir_spec_l1Cur_someOf args, M⟩ (Le' M.length ir_spec_l1Cur_someOf.results P)) : Lw (C f_spec_l1Cur_someOf args M) P := call_ex rfl rfl h
theorem C_spec_l1Cur_someOf {args : List PV} {M : List Blk} {r : PV × List Blk} (h : W C M.length ir_spec_l1Cur_someOf.body ⟨start ir_spec_l1Cur_someOf args, M⟩ (Lv M.length ir_spec_l1Cur_someOf.results r)) : C f_spec_l1Cur_someOf args M = some r := call_of rfl rfl h
theorem E_spec_l1Cur_among {args : List PV} {M : List Blk} {P : PV × List Blk → Prop} (h : W C M.length ir_spec_l1Cur_among.body ⟨start ir_spec_l1Cur_among args, M⟩ (Le' M.length ir_spec_l1Cur_among.results P)) : Lw (C f_spec_l1Cur_among args M) P := call_ex rfl rfl h
theorem C_spec_l1Cur_among {args : List PV} {M : List Blk} {r : PV × List Blk} (h : W C M.length ir_spec_l1Cur_among.body ⟨start ir_spec_l1Cur_among args, M⟩ (Lv M.length ir_spec_l1Cur_among.results r)) : C f_spec_l1Cur_among args M = some r := call_of rfl rfl h
theorem E_spec_l1Cur_flow {args : List PV} {M : List Blk} {P : PV × List Blk → Prop} (h : W C M.length ir_spec_l1Cur_flow.body ⟨start ir_spec_l1Cur_flow args, M⟩ (Le' M.length ir_spec_l1Cur_flow.results P)) : Lw (C f_spec_l1Cur_flow args M) P := call_ex rfl rfl h
theorem C_spec_l1Cur_flow {args : List PV} {M : List Blk} {r : PV × List Blk} (h : W C M.length ir_spec_l1Cur_flow.body ⟨start ir_spec_l1Cur_flow args, M⟩ (Lv M.length ir_spec_l1Cur_flow.results r)) : C f_spec_l1Cur_flow args M = some r := call_of rfl rfl h
theorem C_spec_l1In {args : List PV} {M : List Blk} {r : PV × List Blk} (h : W C M.length ir_spec_l1In.body ⟨start ir_spec_l1In args, M⟩ (Lv M.length ir_spec_l1In.results r)) : C f_spec_l1In args M = some r := call_of rfl rfl h
theorem C_spec_l1Places {args : List PV} {M : List Blk} {r : PV × List Blk} (h : W C M.length ir_spec_l1Places.body ⟨start ir_spec_l1Places args, M⟩ (Lv M.length ir_spec_l1Places.results r)) : C f_spec_l1Places args M = some r := call_of rfl rfl h
theorem C_spec_l1Rising {args : List PV} {M : List Blk} {r : PV × List Blk} (h : W C M.length ir_spec_l1Rising.body ⟨start ir_spec_l1Rising args, M⟩ (Lv M.length ir_spec_l1Rising.results r)) : C f_spec_l1Rising args M = some r := call_of rfl rfl h
theorem C_spec_GoodNet {args : List PV} {M : List Blk} {r : PV × List Blk} (h : W C M.length ir_spec_GoodNet.body ⟨start ir_spec_GoodNet args, M⟩ (Lv M.length ir_spec_GoodNet.results r)) : C f_spec_GoodNet args M = some r := call_of rfl rfl h
theorem C_spec_l3Forward {args : List PV} {M : List Blk} {r : PV × List Blk} (h : W C M.length ir_spec_l3Forward.body ⟨start ir_spec_l3Forward args, M⟩ (Lv M.length ir_spec_l3Forward.results r)) : C f_spec_l3Forward args M = some r := call_of rfl rfl h
theorem C_spec_l3Back {args : List PV} {M : List Blk} {r : PV × List Blk} (h : W C M.length ir_spec_l3Back.body ⟨start ir_spec_l3Back args, M⟩ (Lv M.length ir_spec_l3Back.results r)) : C f_spec_l3Back args M = some r := call_of rfl rfl h
theorem C_spec_l3Both {args : List PV} {M : List Blk} {r : PV × List Blk} (h : W C M.length ir_spec_l3Both.body ⟨start ir_spec_l3Both args, M⟩ (Lv M.length ir_spec_l3Both.results r)) : C f_spec_l3Both args M = some r := call_of rfl rfl h
theorem C_spec_OnWay {args : List PV} {M : List Blk} {r : PV × List Blk} (h : W C M.length ir_spec_OnWay.body ⟨start ir_spec_OnWay args, M⟩ (Lv M.length ir_spec_OnWay.results r)) : C f_spec_OnWay args M = some r := call_of rfl rfl h
theorem C_spec_l1Has {args : List PV} {M : List Blk} {r : PV × List Blk} (h : W C M.length ir_spec_l1Has.body ⟨start ir_spec_l1Has args, M⟩ (Lv M.length ir_spec_l1Has.results r)) : C f_spec_l1Has args M = some r := call_of rfl rfl h
theorem C_spec_GoodFlow {args : List PV} {M : List Blk} {r : PV × List Blk} (h : W C M.length ir_spec_GoodFlow.body ⟨start ir_spec_GoodFlow args, M⟩ (Lv M.length ir_spec_GoodFlow.results r)) : C f_spec_GoodFlow args M = some r := call_of rfl rfl h
theorem C_spec_l3One {args : List PV} {M : List Blk} {r : PV × List Blk} (h : W C M.length ir_spec_l3One.body ⟨start ir_spec_l3One args, M⟩ (Lv M.length ir_spec_l3One.results r)) : C f_spec_l3One args M = some r := call_of rfl rfl h
theorem C_spec_StartOf {args : List PV} {M : List Blk} {r : PV × List Blk} (h : W C M.length ir_spec_StartOf.body ⟨start ir_spec_StartOf args, M⟩ (Lv M.length ir_spec_StartOf.results r)) : C f_spec_StartOf args M = some r := call_of rfl rfl h
theorem E_spec_l1Cur_net {args : List PV} {M : List Blk} {P : PV × List Blk → Prop} (h : W C M.length ir_spec_l1Cur_net.body ⟨start ir_spec_l1Cur_net args, M⟩ (Le' M.length ir_spec_l1Cur_net.results P)) : Lw (C f_spec_l1Cur_net args M) P := call_ex rfl rfl h
theorem C_spec_l1Cur_net {args : List PV} {M : List Blk} {r : PV × List Blk} (h : W C M.length ir_spec_l1Cur_net.body ⟨start ir_spec_l1Cur_net args, M⟩ (Lv M.length ir_spec_l1Cur_net.results r)) : C f_spec_l1Cur_net args M = some r := call_of rfl rfl h
theorem C_spec_l1Most {args : List PV} {M : List Blk} {r : PV × List Blk} (h : W C M.length ir_spec_l1Most.body ⟨start ir_spec_l1Most args, M⟩ (Lv M.length ir_spec_l1Most.results r)) : C f_spec_l1Most args M = some r := call_of rfl rfl h
theorem E_spec_l1Cur_markOf {args : List PV} {M : List Blk} {P : PV × List Blk → Prop} (h : W C M.length ir_spec_l1Cur_markOf.body ⟨start ir_spec_l1Cur_markOf args, M⟩ (Le' M.length ir_spec_l1Cur_markOf.results P)) : Lw (C f_spec_l1Cur_markOf args M) P := call_ex rfl rfl h
theorem C_spec_l1Cur_markOf {args : List PV} {M : List Blk} {r : PV × List Blk} (h : W C M.length ir_spec_l1Cur_markOf.body ⟨start ir_spec_l1Cur_markOf args, M⟩ (Lv M.length ir_spec_l1Cur_markOf.results r)) : C f_spec_l1Cur_markOf args M = some r := call_of rfl rfl h
theorem E_spec_l1Cur_walked {args : List PV} {M : List Blk} {P : PV × List Blk → Prop} (h : W C M.length ir_spec_l1Cur_walked.body ⟨start ir_spec_l1Cur_walked args, M⟩ (Le' M.length ir_spec_l1Cur_walked.results P)) : Lw (C f_spec_l1Cur_walked args M) P := call_ex rfl rfl h
theorem C_spec_l1Cur_walked {args : List PV} {M : List Blk} {r : PV × List Blk} (h : W C M.length ir_spec_l1Cur_walked.body ⟨start ir_spec_l1Cur_walked args, M⟩ (Lv M.length ir_spec_l1Cur_walked.results r)) : C f_spec_l1Cur_walked args M = some r := call_of rfl rfl h
theorem E_spec_l1Cur_budget {args : List PV} {M : List Blk} {P : PV × List Blk → Prop} (h : W C M.length ir_spec_l1Cur_budget.body ⟨start ir_spec_l1Cur_budget args, M⟩ (Le' M.length ir_spec_l1Cur_budget.results P)) : Lw (C f_spec_l1Cur_budget args M) P := call_ex rfl rfl h
theorem C_spec_l1Cur_budget {args : List PV} {M : List Blk} {r : PV × List Blk} (h : W C M.length ir_spec_l1Cur_budget.body ⟨start ir_spec_l1Cur_budget args, M⟩ (Lv M.length ir_spec_l1Cur_budget.results r)) : C f_spec_l1Cur_budget args M = some r := call_of rfl rfl h
theorem C_spec_l1Own {args : List PV} {M : List Blk} {r : PV × List Blk} (h : W C M.length ir_spec_l1Own.body ⟨start ir_spec_l1Own args, M⟩ (Lv M.length ir_spec_l1Own.results r)) : C f_spec_l1Own args M = some r := call_of rfl rfl h
theorem C_spec_l1All {args : List PV} {M : List Blk} {r : PV × List Blk} (h : W C M.length ir_spec_l1All.body ⟨start ir_spec_l1All args, M⟩ (Lv M.length ir_spec_l1All.results r)) : C f_spec_l1All args M = some r := call_of rfl rfl h
theorem C_spec_GoodMark {args : List PV} {M : List Blk} {r : PV × List Blk} (h : W C M.length ir_spec_GoodMark.body ⟨start ir_spec_GoodMark args, M⟩ (Lv M.length ir_spec_GoodMark.results r)) : C f_spec_GoodMark args M = some r := call_of rfl rfl h
theorem C_spec_l2Marked {args : List PV} {M : List Blk} {r : PV × List Blk} (h : W C M.length ir_spec_l2Marked.body ⟨start ir_spec_l2Marked args, M⟩ (Lv M.length ir_spec_l2Marked.results r)) : C f_spec_l2Marked args M = some r := call_of rfl rfl h
theorem C_spec_l2Can {args : List PV} {M : List Blk} {r : PV × List Blk} (h : W C M.length ir_spec_l2Can.body ⟨start ir_spec_l2Can args, M⟩ (Lv M.length ir_spec_l2Can.results r)) : C f_spec_l2Can args M = some r := call_of rfl rfl h
theorem C_spec_l2Enabled {args : List PV} {M : List Blk} {r : PV × List Blk} (h : W C M.length ir_spec_l2Enabled.body ⟨start ir_spec_l2Enabled args, M⟩ (Lv M.length ir_spec_l2Enabled.results r)) : C f_spec_l2Enabled args M = some r := call_of rfl rfl h
theorem C_spec_Enabled {args : List PV} {M : List Blk} {r : PV × List Blk} (h : W C M.length ir_spec_Enabled.body ⟨start ir_spec_Enabled args, M⟩ (Lv M.length ir_spec_Enabled.results r)) : C f_spec_Enabled args M = some r := call_of rfl rfl h
theorem C_spec_l2Fire {args : List PV} {M : List Blk} {r : PV × List Blk} (h : W C M.length ir_spec_l2Fire.body ⟨start ir_spec_l2Fire args, M⟩ (Lv M.length ir_spec_l2Fire.results r)) : C f_spec_l2Fire args M = some r := call_of rfl rfl h
theorem C_spec_Fire {args : List PV} {M : List Blk} {r : PV × List Blk} (h : W C M.length ir_spec_Fire.body ⟨start ir_spec_Fire args, M⟩ (Lv M.length ir_spec_Fire.results r)) : C f_spec_Fire args M = some r := call_of rfl rfl h
theorem E_spec_l1Cur_metMark {args : List PV} {M : List Blk} {P : PV × List Blk → Prop} (h : W C M.length ir_spec_l1Cur_metMark.body ⟨start ir_spec_l1Cur_metMark args, M⟩ (Le' M.length ir_spec_l1Cur_metMark.results P)) : Lw (C f_spec_l1Cur_metMark args M) P := call_ex rfl rfl h
theorem C_spec_l1Cur_metMark {args : List PV} {M : List Blk} {r : PV × List Blk} (h : W C M.length ir_spec_l1Cur_metMark.body ⟨start ir_spec_l1Cur_metMark args, M⟩ (Lv M.length ir_spec_l1Cur_metMark.results r)) : C f_spec_l1Cur_metMark args M = some r := call_of rfl rfl h
theorem E_spec_DrawWayTo {args : List PV} {M : List Blk} {P : PV × List Blk → Prop} (h : W C M.length ir_spec_DrawWayTo.body ⟨start ir_spec_DrawWayTo args, M⟩ (Le' M.length ir_spec_DrawWayTo.results P)) : Lw (C f_spec_DrawWayTo args M) P := call_ex rfl rfl h
theorem C_spec_DrawWayTo {args : List PV} {M : List Blk} {r : PV × List Blk} (h : W C M.length ir_spec_DrawWayTo.body ⟨start ir_spec_DrawWayTo args, M⟩ (Lv M.length ir_spec_DrawWayTo.results r)) : C f_spec_DrawWayTo args M = some r := call_of rfl rfl h
theorem E_spec_DrawIsHome {args : List PV} {M : List Blk} {P : PV × List Blk → Prop} (h : W C M.length ir_spec_DrawIsHome.body ⟨start ir_spec_DrawIsHome args, M⟩ (Le' M.length ir_spec_DrawIsHome.results P)) : Lw (C f_spec_DrawIsHome args M) P := call_ex rfl rfl h
theorem C_spec_DrawIsHome {args : List PV} {M : List Blk} {r : PV × List Blk} (h : W C M.length ir_spec_DrawIsHome.body ⟨start ir_spec_DrawIsHome args, M⟩ (Lv M.length ir_spec_DrawIsHome.results r)) : C f_spec_DrawIsHome args M = some r := call_of rfl rfl h
theorem C_impl_within {args : List PV} {M : List Blk} {r : PV × List Blk} (h : W C M.length ir_impl_within.body ⟨start ir_impl_within args, M⟩ (Lv M.length ir_impl_within.results r)) : C f_impl_within args M = some r := call_of rfl rfl h
theorem C_impl_increasing {args : List PV} {M : List Blk} {r : PV × List Blk} (h : W C M.length ir_impl_increasing.body ⟨start ir_impl_increasing args, M⟩ (Lv M.length ir_impl_increasing.results r)) : C f_impl_increasing args M = some r := call_of rfl rfl h
theorem C_impl_allWithin {args : List PV} {M : List Blk} {r : PV × List Blk} (h : W C M.length ir_impl_allWithin.body ⟨start ir_impl_allWithin args, M⟩ (Lv M.length ir_impl_allWithin.results r)) : C f_impl_allWithin args M = some r := call_of rfl rfl h
theorem C_impl_arePlaces {args : List PV} {M : List Blk} {r : PV × List Blk} (h : W C M.length ir_impl_arePlaces.body ⟨start ir_impl_arePlaces args, M⟩ (Lv M.length ir_impl_arePlaces.results r)) : C f_impl_arePlaces args M = some r := call_of rfl rfl h
theorem C_impl_GoodNet_1 {args : List PV} {M : List Blk} {r : PV × List Blk} (h : W C M.length ir_impl_GoodNet_1.body ⟨start ir_impl_GoodNet_1 args, M⟩ (Lv M.length ir_impl_GoodNet_1.results r)) : C f_impl_GoodNet_1 args M = some r := call_of rfl rfl h
theorem C_slices_IndexFunc_sl_impl_Trans_impl_Trans {args : List PV} {M : List Blk} {r : PV × List Blk} (h : W C M.length ir_slices_IndexFunc_sl_impl_Trans_impl_Trans.body ⟨start ir_slices_IndexFunc_sl_impl_Trans_impl_Trans args, M⟩ (Lv M.length ir_slices_IndexFunc_sl_impl_Trans_impl_Trans.results r)) : C f_slices_IndexFunc_sl_impl_Trans_impl_Trans args M = some r := call_of rfl rfl h
theorem C_slices_ContainsFunc_sl_impl_Trans_impl_Trans {args : List PV} {M : List Blk} {r : PV × List Blk} (h : W C M.length ir_slices_ContainsFunc_sl_impl_Trans_impl_Trans.body ⟨start ir_slices_ContainsFunc_sl_impl_Trans_impl_Trans args, M⟩ (Lv M.length ir_slices_ContainsFunc_sl_impl_Trans_impl_Trans.results r)) : C f_slices_ContainsFunc_sl_impl_Trans_impl_Trans args M = some r := call_of rfl rfl h
theorem C_impl_GoodNet {args : List PV} {M : List Blk} {r : PV × List Blk} (h : W C M.length ir_impl_GoodNet.body ⟨start ir_impl_GoodNet args, M⟩ (Lv M.length ir_impl_GoodNet.results r)) : C f_impl_GoodNet args M = some r := call_of rfl rfl h
theorem C_impl_GoodMark {args : List PV} {M : List Blk} {r : PV × List Blk} (h : W C M.length ir_impl_GoodMark.body ⟨start ir_impl_GoodMark args, M⟩ (Lv M.length ir_impl_GoodMark.results r)) : C f_impl_GoodMark args M = some r := call_of rfl rfl h
theorem C_impl_isMarked {args : List PV} {M : List Blk} {r : PV × List Blk} (h : W C M.length ir_impl_isMarked.body ⟨start ir_impl_isMarked args, M⟩ (Lv M.length ir_impl_isMarked.results r)) : C f_impl_isMarked args M = some r := call_of rfl rfl h
theorem C_impl_isEnabled_1 {args : List PV} {M : List Blk} {r : PV × List Blk} (h : W C M.length ir_impl_isEnabled_1.body ⟨start ir_impl_isEnabled_1 args, M⟩ (Lv M.length ir_impl_isEnabled_1.results r)) : C f_impl_isEnabled_1 args M = some r := call_of rfl rfl h
theorem C_slices_IndexFunc_sl_int_int {args : List PV} {M : List Blk} {r : PV × List Blk} (h : W C M.length ir_slices_IndexFunc_sl_int_int.body ⟨start ir_slices_IndexFunc_sl_int_int args, M⟩ (Lv M.length ir_slices_IndexFunc_sl_int_int.results r)) : C f_slices_IndexFunc_sl_int_int args M = some r := call_of rfl rfl h
theorem C_slices_ContainsFunc_sl_int_int {args : List PV} {M : List Blk} {r : PV × List Blk} (h : W C M.length ir_slices_ContainsFunc_sl_int_int.body ⟨start ir_slices_ContainsFunc_sl_int_int args, M⟩ (Lv M.length ir_slices_ContainsFunc_sl_int_int.results r)) : C f_slices_ContainsFunc_sl_int_int args M = some r := call_of rfl rfl h
theorem C_impl_isEnabled {args : List PV} {M : List Blk} {r : PV × List Blk} (h : W C M.length ir_impl_isEnabled.body ⟨start ir_impl_isEnabled args, M⟩ (Lv M.length ir_impl_isEnabled.results r)) : C f_impl_isEnabled args M = some r := call_of rfl rfl h
theorem C_impl_enabled {args : List PV} {M : List Blk} {r : PV × List Blk} (h : W C M.length ir_impl_enabled.body ⟨start ir_impl_enabled args, M⟩ (Lv M.length ir_impl_enabled.results r)) : C f_impl_enabled args M = some r := call_of rfl rfl h
theorem C_impl_fired {args : List PV} {M : List Blk} {r : PV × List Blk} (h : W C M.length ir_impl_fired.body ⟨start ir_impl_fired args, M⟩ (Lv M.length ir_impl_fired.results r)) : C f_impl_fired args M = some r := call_of rfl rfl h
theorem C_slices_Equal_sl_int_int {args : List PV} {M : List Blk} {r : PV × List Blk} (h : W C M.length ir_slices_Equal_sl_int_int.body ⟨start ir_slices_Equal_sl_int_int args, M⟩ (Lv M.length ir_slices_Equal_sl_int_int.results r)) : C f_slices_Equal_sl_int_int args M = some r := call_of rfl rfl h
theorem C_impl_Space_find_1 {args : List PV} {M : List Blk} {r : PV × List Blk} (h : W C M.length ir_impl_Space_find_1.body ⟨start ir_impl_Space_find_1 args, M⟩ (Lv M.length ir_impl_Space_find_1.results r)) : C f_impl_Space_find_1 args M = some r := call_of rfl rfl h
theorem C_slices_IndexFunc_sl_sl_int_sl_int {args : List PV} {M : List Blk} {r : PV × List Blk} (h : W C M.length ir_slices_IndexFunc_sl_sl_int_sl_int.body ⟨start ir_slices_IndexFunc_sl_sl_int_sl_int args, M⟩ (Lv M.length ir_slices_IndexFunc_sl_sl_int_sl_int.results r)) : C f_slices_IndexFunc_sl_sl_int_sl_int args M = some r := call_of rfl rfl h
theorem C_impl_Space_find {args : List PV} {M : List Blk} {r : PV × List Blk} (h : W C M.length ir_impl_Space_find.body ⟨start ir_impl_Space_find args, M⟩ (Lv M.length ir_impl_Space_find.results r)) : C f_impl_Space_find args M = some r := call_of rfl rfl h
theorem C_impl_explore {args : List PV} {M : List Blk} {r : PV × List Blk} (h : W C M.length ir_impl_explore.body ⟨start ir_impl_explore args, M⟩ (Lv M.length ir_impl_explore.results r)) : C f_impl_explore args M = some r := call_of rfl rfl h
theorem C_impl_Explore {args : List PV} {M : List Blk} {r : PV × List Blk} (h : W C M.length ir_impl_Explore.body ⟨start ir_impl_Explore args, M⟩ (Lv M.length ir_impl_Explore.results r)) : C f_impl_Explore args M = some r := call_of rfl rfl h
theorem C_impl_wholeSpace {args : List PV} {M : List Blk} {r : PV × List Blk} (h : W C M.length ir_impl_wholeSpace.body ⟨start ir_impl_wholeSpace args, M⟩ (Lv M.length ir_impl_wholeSpace.results r)) : C f_impl_wholeSpace args M = some r := call_of rfl rfl h
theorem C_impl_Space_leadingTo {args : List PV} {M : List Blk} {r : PV × List Blk} (h : W C M.length ir_impl_Space_leadingTo.body ⟨start ir_impl_Space_leadingTo args, M⟩ (Lv M.length ir_impl_Space_leadingTo.results r)) : C f_impl_Space_leadingTo args M = some r := call_of rfl rfl h
theorem C_slices_Index_sl_bool_bool {args : List PV} {M : List Blk} {r : PV × List Blk} (h : W C M.length ir_slices_Index_sl_bool_bool.body ⟨start ir_slices_Index_sl_bool_bool args, M⟩ (Lv M.length ir_slices_Index_sl_bool_bool.results r)) : C f_slices_Index_sl_bool_bool args M = some r := call_of rfl rfl h
theorem C_slices_Contains_sl_bool_bool {args : List PV} {M : List Blk} {r : PV × List Blk} (h : W C M.length ir_slices_Contains_sl_bool_bool.body ⟨start ir_slices_Contains_sl_bool_bool args, M⟩ (Lv M.length ir_slices_Contains_sl_bool_bool.results r)) : C f_slices_Contains_sl_bool_bool args M = some r := call_of rfl rfl h
theorem C_impl_IsHome {args : List PV} {M : List Blk} {r : PV × List Blk} (h : W C M.length ir_impl_IsHome.body ⟨start ir_impl_IsHome args, M⟩ (Lv M.length ir_impl_IsHome.results r)) : C f_impl_IsHome args M = some r := call_of rfl rfl h
theorem C_spec_l4Asked {args : List PV} {M : List Blk} {r : PV × List Blk} (h : W C M.length ir_spec_l4Asked.body ⟨start ir_spec_l4Asked args, M⟩ (Lv M.length ir_spec_l4Asked.results r)) : C f_spec_l4Asked args M = some r := call_of rfl rfl h
theorem C_spec_l1Same {args : List PV} {M : List Blk} {r : PV × List Blk} (h : W C M.length ir_spec_l1Same.body ⟨start ir_spec_l1Same args, M⟩ (Lv M.length ir_spec_l1Same.results r)) : C f_spec_l1Same args M = some r := call_of rfl rfl h
theorem C_spec_l4Find {args : List PV} {M : List Blk} {r : PV × List Blk} (h : W C M.length ir_spec_l4Find.body ⟨start ir_spec_l4Find args, M⟩ (Lv M.length ir_spec_l4Find.results r)) : C f_spec_l4Find args M = some r := call_of rfl rfl h
theorem C_spec_l4Explore {args : List PV} {M : List Blk} {r : PV × List Blk} (h : W C M.length ir_spec_l4Explore.body ⟨start ir_spec_l4Explore args, M⟩ (Lv M.length ir_spec_l4Explore.results r)) : C f_spec_l4Explore args M = some r := call_of rfl rfl h
theorem C_spec_Explore {args : List PV} {M : List Blk} {r : PV × List Blk} (h : W C M.length ir_spec_Explore.body ⟨start ir_spec_Explore args, M⟩ (Lv M.length ir_spec_Explore.results r)) : C f_spec_Explore args M = some r := call_of rfl rfl h
theorem C_spec_l4All {args : List PV} {M : List Blk} {r : PV × List Blk} (h : W C M.length ir_spec_l4All.body ⟨start ir_spec_l4All args, M⟩ (Lv M.length ir_spec_l4All.results r)) : C f_spec_l4All args M = some r := call_of rfl rfl h
theorem C_spec_l4To {args : List PV} {M : List Blk} {r : PV × List Blk} (h : W C M.length ir_spec_l4To.body ⟨start ir_spec_l4To args, M⟩ (Lv M.length ir_spec_l4To.results r)) : C f_spec_l4To args M = some r := call_of rfl rfl h
theorem C_spec_l4Everywhere {args : List PV} {M : List Blk} {r : PV × List Blk} (h : W C M.length ir_spec_l4Everywhere.body ⟨start ir_spec_l4Everywhere args, M⟩ (Lv M.length ir_spec_l4Everywhere.results r)) : C f_spec_l4Everywhere args M = some r := call_of rfl rfl h
theorem C_spec_IsHome {args : List PV} {M : List Blk} {r : PV × List Blk} (h : W C M.length ir_spec_IsHome.body ⟨start ir_spec_IsHome args, M⟩ (Lv M.length ir_spec_IsHome.results r)) : C f_spec_IsHome args M = some r := call_of rfl rfl h
theorem C_impl_CanCome {args : List PV} {M : List Blk} {r : PV × List Blk} (h : W C M.length ir_impl_CanCome.body ⟨start ir_impl_CanCome args, M⟩ (Lv M.length ir_impl_CanCome.results r)) : C f_impl_CanCome args M = some r := call_of rfl rfl h
theorem C_spec_CanCome {args : List PV} {M : List Blk} {r : PV × List Blk} (h : W C M.length ir_spec_CanCome.body ⟨start ir_spec_CanCome args, M⟩ (Lv M.length ir_spec_CanCome.results r)) : C f_spec_CanCome args M = some r := call_of rfl rfl h
theorem C_impl_Space_wayTo_1 {args : List PV} {M : List Blk} {r : PV × List Blk} (h : W C M.length ir_impl_Space_wayTo_1.body ⟨start ir_impl_Space_wayTo_1 args, M⟩ (Lv M.length ir_impl_Space_wayTo_1.results r)) : C f_impl_Space_wayTo_1 args M = some r := call_of rfl rfl h
theorem C_slices_IndexFunc_sl_impl_Arc_impl_Arc {args : List PV} {M : List Blk} {r : PV × List Blk} (h : W C M.length ir_slices_IndexFunc_sl_impl_Arc_impl_Arc.body ⟨start ir_slices_IndexFunc_sl_impl_Arc_impl_Arc args, M⟩ (Lv M.length ir_slices_IndexFunc_sl_impl_Arc_impl_Arc.results r)) : C f_slices_IndexFunc_sl_impl_Arc_impl_Arc args M = some r := call_of rfl rfl h
theorem C_slices_Reverse_sl_int_int {args : List PV} {M : List Blk} {r : PV × List Blk} (h : W C M.length ir_slices_Reverse_sl_int_int.body ⟨start ir_slices_Reverse_sl_int_int args, M⟩ (Lv M.length ir_slices_Reverse_sl_int_int.results r)) : C f_slices_Reverse_sl_int_int args M = some r := call_of rfl rfl h
theorem E_impl_Space_wayTo {args : List PV} {M : List Blk} {P : PV × List Blk → Prop} (h : W C M.length ir_impl_Space_wayTo.body ⟨start ir_impl_Space_wayTo args, M⟩ (Le' M.length ir_impl_Space_wayTo.results P)) : Lw (C f_impl_Space_wayTo args M) P := call_ex rfl rfl h
theorem C_impl_Space_wayTo {args : List PV} {M : List Blk} {r : PV × List Blk} (h : W C M.length ir_impl_Space_wayTo.body ⟨start ir_impl_Space_wayTo args, M⟩ (Lv M.length ir_impl_Space_wayTo.results r)) : C f_impl_Space_wayTo args M = some r := call_of rfl rfl h
theorem E_impl_WayTo {args : List PV} {M : List Blk} {P : PV × List Blk → Prop} (h : W C M.length ir_impl_WayTo.body ⟨start ir_impl_WayTo args, M⟩ (Le' M.length ir_impl_WayTo.results P)) : Lw (C f_impl_WayTo args M) P := call_ex rfl rfl h
theorem C_impl_WayTo {args : List PV} {M : List Blk} {r : PV × List Blk} (h : W C M.length ir_impl_WayTo.body ⟨start ir_impl_WayTo args, M⟩ (Lv M.length ir_impl_WayTo.results r)) : C f_impl_WayTo args M = some r := call_of rfl rfl h
theorem C_spec_l4Way {args : List PV} {M : List Blk} {r : PV × List Blk} (h : W C M.length ir_spec_l4Way.body ⟨start ir_spec_l4Way args, M⟩ (Lv M.length ir_spec_l4Way.results r)) : C f_spec_l4Way args M = some r := call_of rfl rfl h
theorem C_spec_WayTo {args : List PV} {M : List Blk} {r : PV × List Blk} (h : W C M.length ir_spec_WayTo.body ⟨start ir_spec_WayTo args, M⟩ (Lv M.length ir_spec_WayTo.results r)) : C f_spec_WayTo args M = some r := call_of rfl rfl h
theorem C_laws_sameInts {args : List PV} {M : List Blk} {r : PV × List Blk} (h : W C M.length ir_laws_sameInts.body ⟨start ir_laws_sameInts args, M⟩ (Lv M.length ir_laws_sameInts.results r)) : C f_laws_sameInts args M = some r := call_of rfl rfl h
theorem C_impl_areTrans {args : List PV} {M : List Blk} {r : PV × List Blk} (h : W C M.length ir_impl_areTrans.body ⟨start ir_impl_areTrans args, M⟩ (Lv M.length ir_impl_areTrans.results r)) : C f_impl_areTrans args M = some r := call_of rfl rfl h
theorem C_impl_isTrans {args : List PV} {M : List Blk} {r : PV × List Blk} (h : W C M.length ir_impl_isTrans.body ⟨start ir_impl_isTrans args, M⟩ (Lv M.length ir_impl_isTrans.results r)) : C f_impl_isTrans args M = some r := call_of rfl rfl h
theorem C_impl_checkedMark {args : List PV} {M : List Blk} {r : PV × List Blk} (h : W C M.length ir_impl_checkedMark.body ⟨start ir_impl_checkedMark args, M⟩ (Lv M.length ir_impl_checkedMark.results r)) : C f_impl_checkedMark args M = some r := call_of rfl rfl h
theorem C_impl_Fire {args : List PV} {M : List Blk} {r : PV × List Blk} (h : W C M.length ir_impl_Fire.body ⟨start ir_impl_Fire args, M⟩ (Lv M.length ir_impl_Fire.results r)) : C f_impl_Fire args M = some r := call_of rfl rfl h
theorem E_impl_FireAll {args : List PV} {M : List Blk} {P : PV × List Blk → Prop} (h : W C M.length ir_impl_FireAll.body ⟨start ir_impl_FireAll args, M⟩ (Le' M.length ir_impl_FireAll.results P)) : Lw (C f_impl_FireAll args M) P := call_ex rfl rfl h
theorem C_impl_FireAll {args : List PV} {M : List Blk} {r : PV × List Blk} (h : W C M.length ir_impl_FireAll.body ⟨start ir_impl_FireAll args, M⟩ (Lv M.length ir_impl_FireAll.results r)) : C f_impl_FireAll args M = some r := call_of rfl rfl h
theorem C_laws_FnHome {args : List PV} {M : List Blk} {r : PV × List Blk} (h : W C M.length ir_laws_FnHome.body ⟨start ir_laws_FnHome args, M⟩ (Lv M.length ir_laws_FnHome.results r)) : C f_laws_FnHome args M = some r := call_of rfl rfl h
theorem slices_Clone_sl_int_int_ok {es : List PV} (h : es.length ≤ 68719476736) : C f_slices_Clone_sl_int_int [.sl true 1 es] [] = some (.un t_int true 1 es, []) := lim_ext (e := ext_slices_Clone_sl_int_int) rfl (by simp [ext_slices_Clone_sl_int_int, extClone, h])
end Go.Proofs.Ytkkifebmicbbaaa.Pi
