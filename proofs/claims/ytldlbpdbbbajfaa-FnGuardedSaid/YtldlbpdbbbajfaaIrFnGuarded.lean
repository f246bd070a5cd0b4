/- The forms of the functions that the law reaches, and their oracle. Definitions alone; no condition. -/
import Derived.Test.YtldlbpdbbbajfaaPiExt
namespace Go.Proofs.Ytldlbpdbbbajfaa.Pi
open Go
set_option linter.all false
abbrev t_int : TypeId := 3
abbrev t_sl_int : TypeId := 24
abbrev t_impl_Net : TypeId := 39
abbrev t_impl_Trans : TypeId := 54
abbrev t_impl_Flow : TypeId := 69
abbrev t_impl_Space : TypeId := 85
abbrev t_impl_Arc : TypeId := 90
abbrev t_spec_l1Cur : TypeId := 101
abbrev f_laws_big : FuncId := 15
abbrev f_spec_l1Cur_next : FuncId := 233
abbrev f_spec_l1Cur_pick : FuncId := 137
abbrev f_spec_l1Cur_one : FuncId := 136
abbrev f_spec_l1Put : FuncId := 244
abbrev f_spec_l1Cur_someOf : FuncId := 232
abbrev f_spec_l1Cur_among : FuncId := 211
abbrev f_spec_l1Cur_net : FuncId := 134
abbrev f_spec_l1Most : FuncId := 148
abbrev f_spec_l1Least : FuncId := 240
abbrev f_spec_l1Cur_grow : FuncId := 243
abbrev f_spec_l1Cur_flow : FuncId := 193
abbrev f_spec_l1Cur_kept : FuncId := 171
abbrev f_spec_l1Cur_markOf : FuncId := 135
abbrev f_spec_DrawIsGuarded : FuncId := 97
abbrev f_impl_within : FuncId := 127
abbrev f_impl_increasing : FuncId := 237
abbrev f_impl_allWithin : FuncId := 128
abbrev f_impl_arePlaces : FuncId := 153
abbrev f_impl_GoodNet_1 : FuncId := 152
abbrev f_slices_IndexFunc_sl_impl_Trans_impl_Trans : FuncId := 236
abbrev f_slices_ContainsFunc_sl_impl_Trans_impl_Trans : FuncId := 151
abbrev f_impl_GoodNet : FuncId := 37
abbrev f_impl_hasResets_1 : FuncId := 235
abbrev f_impl_hasResets : FuncId := 146
abbrev f_impl_isPlain : FuncId := 173
abbrev f_impl_isSmall : FuncId := 197
abbrev f_impl_GoodMark : FuncId := 24
abbrev f_impl_maskOf : FuncId := 175
abbrev f_impl_bigTrap : FuncId := 178
abbrev f_impl_isSiphon : FuncId := 174
abbrev f_impl_IsGuarded_1 : FuncId := 215
abbrev f_impl_smallSets_1 : FuncId := 251
abbrev f_slices_IndexFunc_sl_int_int : FuncId := 238
abbrev f_slices_ContainsFunc_sl_int_int : FuncId := 165
abbrev f_impl_smallSets : FuncId := 214
abbrev f_impl_setOf : FuncId := 180
abbrev f_impl_IsGuarded_2 : FuncId := 216
abbrev f_impl_IsGuarded : FuncId := 98
abbrev f_spec_l1In : FuncId := 143
abbrev f_spec_l1Places : FuncId := 129
abbrev f_spec_l1Rising : FuncId := 154
abbrev f_spec_GoodNet : FuncId := 38
abbrev f_spec_l2Resets : FuncId := 159
abbrev f_spec_l7Plain : FuncId := 200
abbrev f_spec_l1All : FuncId := 130
abbrev f_spec_GoodMark : FuncId := 25
abbrev f_spec_l1Set : FuncId := 249
abbrev f_spec_l1Has : FuncId := 192
abbrev f_spec_l2Meet : FuncId := 169
abbrev f_spec_l8Siphon : FuncId := 177
abbrev f_spec_l8Small : FuncId := 217
abbrev f_spec_l1Own : FuncId := 147
abbrev f_spec_l8Trap : FuncId := 179
abbrev f_spec_l8Without : FuncId := 182
abbrev f_spec_l8BigTrap : FuncId := 181
abbrev f_spec_IsGuarded : FuncId := 99
abbrev f_impl_isMarked : FuncId := 138
abbrev f_impl_isEnabled_1 : FuncId := 234
abbrev f_impl_isEnabled : FuncId := 140
abbrev f_impl_enabled : FuncId := 155
abbrev f_impl_Enabled : FuncId := 39
abbrev f_laws_numberOf : FuncId := 33
abbrev f_impl_isTrans : FuncId := 139
abbrev f_slices_Clone_sl_int_int : FuncId := 150
abbrev f_impl_fired : FuncId := 141
abbrev f_impl_checkedMark : FuncId := 120
abbrev f_impl_Fire : FuncId := 30
abbrev f_slices_Equal_sl_int_int : FuncId := 168
abbrev f_impl_Space_find_1 : FuncId := 257
abbrev f_slices_IndexFunc_sl_sl_int_sl_int : FuncId := 256
abbrev f_impl_Space_find : FuncId := 225
abbrev f_impl_explore : FuncId := 221
abbrev f_impl_Explore : FuncId := 105
abbrev f_impl_wholeSpace : FuncId := 218
abbrev f_impl_FirstDead : FuncId := 100
abbrev f_spec_DrawSmallInvariants : FuncId := 79
abbrev f_spec_DrawSmallSiphons : FuncId := 101
abbrev f_impl_SmallSiphons_1 : FuncId := 219
abbrev f_impl_setsOf : FuncId := 198
abbrev f_impl_SmallSiphons : FuncId := 102
abbrev f_spec_SmallSiphons : FuncId := 103
abbrev f_laws_sameInts : FuncId := 23
abbrev f_laws_sameLists : FuncId := 84
abbrev f_impl_IsSiphon : FuncId := 55
abbrev f_laws_has : FuncId := 40
abbrev f_laws_within : FuncId := 63
abbrev f_laws_FnGuarded : FuncId := 12
def ext_slices_Clone_sl_int_int : List PV → Option PV := extClone t_int true 1
def ir_laws_big : IFun := ⟨[0, 1, 4],
  (.seq (.region false [] [⟨some 2, .mov (.c (.bool false)), none⟩])
  (.seq (.region false [] [⟨none, .mov (.v 0), none⟩, ⟨none, .len false (.r 0), none⟩, ⟨none, .bin false .gtr (.r 1) (.c (.int .i64 1048576)), none⟩, ⟨none, .mov (.r 2), none⟩, ⟨none, .mov (.v 1), some (3, false)⟩, ⟨none, .len false (.r 4), some (3, false)⟩, ⟨none, .mov (.v 0), some (3, false)⟩, ⟨none, .len false (.r 6), some (3, false)⟩, ⟨none, .bin false .sub (.c (.int .i64 1048576)) (.r 7), some (3, false)⟩, ⟨none, .bin false .gtr (.r 5) (.r 8), some (3, false)⟩, ⟨none, .pick (.r 3) (.c (.bool true)) (.r 9), none⟩, ⟨some 2, .mov (.r 10), none⟩])
  .ret)),
  [.v 2]⟩
def ir_spec_l1Cur_next : IFun := ⟨[0, 2, 3, 13, 53],
  (.seq (.region false [] [⟨some 1, .mov (.c (.int .i64 0)), none⟩])
  (.seq (.region false [] [⟨some 2, .mov (.c (.int .i64 0)), none⟩])
  (.seq (.seq (.region true [] [⟨none, .mov (.v 0), none⟩, ⟨none, .ncheck (.r 0), none⟩, ⟨none, .faddr 1 (.r 1), none⟩, ⟨none, .load false 1 (.r 2), none⟩, ⟨none, .mov (.v 0), none⟩, ⟨none, .ncheck (.r 4), none⟩, ⟨none, .faddr 0 (.r 5), none⟩, ⟨none, .load false 1 (.r 6), none⟩, ⟨none, .len false (.r 7), none⟩, ⟨some 3, .bin false .lss (.r 3) (.r 8), none⟩])
  (.cond (.v 3) (.region true [] [⟨none, .mov (.v 0), none⟩, ⟨none, .ncheck (.r 0), none⟩, ⟨none, .faddr 0 (.r 1), none⟩, ⟨none, .load false 1 (.r 2), none⟩, ⟨none, .mov (.v 0), none⟩, ⟨none, .ncheck (.r 4), none⟩, ⟨none, .faddr 1 (.r 5), none⟩, ⟨none, .load false 1 (.r 6), none⟩, ⟨none, .iaddr 1 (.r 3) (.r 7), none⟩, ⟨none, .load false 1 (.r 8), none⟩, ⟨none, .conv .i64 (.r 9), none⟩, ⟨some 2, .mov (.r 10), none⟩]) .skip))
  (.seq (.region false [] [⟨none, .mov (.v 0), none⟩, ⟨none, .ncheck (.r 0), none⟩, ⟨none, .faddr 1 (.r 1), none⟩, ⟨none, .load false 1 (.r 2), none⟩, ⟨none, .bin false .add (.r 3) (.c (.int .i64 1)), none⟩, ⟨none, .ncheck (.r 0), none⟩, ⟨none, .faddr 1 (.r 5), none⟩, ⟨none, .store 1 (.r 6) (.r 4), none⟩])
  (.seq (.region false [] [⟨none, .mov (.v 0), none⟩, ⟨none, .mov (.v 0), none⟩, ⟨none, .ncheck (.r 1), none⟩, ⟨none, .faddr 2 (.r 2), none⟩, ⟨none, .load false 1 (.r 3), none⟩, ⟨none, .bin false .mul (.r 4) (.c (.int .u64 6364136223846793005)), none⟩, ⟨none, .mov (.v 2), none⟩, ⟨none, .conv .u64 (.r 6), none⟩, ⟨none, .bin false .add (.r 5) (.r 7), none⟩, ⟨none, .bin false .add (.r 8) (.c (.int .u64 1442695040888963407)), none⟩, ⟨none, .ncheck (.r 0), none⟩, ⟨none, .faddr 2 (.r 10), none⟩, ⟨none, .store 1 (.r 11) (.r 9), none⟩])
  (.seq (.seq (.region true [] [⟨none, .mov (.v 0), none⟩, ⟨none, .ncheck (.r 0), none⟩, ⟨none, .faddr 1 (.r 1), none⟩, ⟨none, .load false 1 (.r 2), none⟩, ⟨none, .mov (.v 0), none⟩, ⟨none, .ncheck (.r 4), none⟩, ⟨none, .faddr 0 (.r 5), none⟩, ⟨none, .load false 1 (.r 6), none⟩, ⟨none, .len false (.r 7), none⟩, ⟨some 4, .bin false .leq (.r 3) (.r 8), none⟩])
  (.cond (.v 4) (.seq (.region false [] [⟨none, .mov (.v 2), none⟩, ⟨some 1, .mov (.r 0), none⟩])
  .ret) .skip))
  (.seq (.region false [] [⟨none, .mov (.v 0), none⟩, ⟨none, .ncheck (.r 0), none⟩, ⟨none, .faddr 2 (.r 1), none⟩, ⟨none, .load false 1 (.r 2), none⟩, ⟨none, .bin false .shr (.r 3) (.c (.int .u64 40)), none⟩, ⟨none, .bin false .and (.r 4) (.c (.int .u64 255)), none⟩, ⟨none, .conv .i64 (.r 5), none⟩, ⟨some 1, .mov (.r 6), none⟩])
  .ret))))))),
  [.v 1]⟩
def ir_spec_l1Cur_pick : IFun := ⟨[0, 1, 4, 5, 7, 11],
  (.seq (.region false [] [⟨some 2, .mov (.c (.int .i64 0)), none⟩])
  (.seq (.seq (.region false [] [⟨none, .mov (.v 1), none⟩, ⟨some 4, .bin false .leq (.r 0) (.c (.int .i64 1)), none⟩])
  (.cond (.v 4) (.seq (.region false [] [⟨some 2, .mov (.c (.int .i64 0)), none⟩])
  .ret) .skip))
  (.seq (.region false [] [⟨none, .mov (.v 0), none⟩, ⟨none, .callm f_spec_l1Cur_next [(.r 0)], none⟩, ⟨some 3, .mov (.r 1), none⟩])
  (.seq (.seq (.region false [] [⟨none, .mov (.v 1), none⟩, ⟨some 5, .bin false .gtr (.r 0) (.c (.int .i64 200)), none⟩])
  (.cond (.v 5) (.region false [] [⟨none, .mov (.v 3), none⟩, ⟨none, .bin false .mul (.r 0) (.c (.int .i64 256)), none⟩, ⟨none, .mov (.v 0), none⟩, ⟨none, .callm f_spec_l1Cur_next [(.r 2)], none⟩, ⟨none, .bin false .add (.r 1) (.r 3), none⟩, ⟨some 3, .mov (.r 4), none⟩]) .skip))
  (.seq (.region false [] [⟨none, .mov (.v 3), none⟩, ⟨none, .mov (.v 1), none⟩, ⟨none, .bin false .rem (.r 0) (.r 1), none⟩, ⟨some 2, .mov (.r 2), none⟩])
  .ret))))),
  [.v 2]⟩
def ir_spec_l1Cur_one : IFun := ⟨[0, 1, 4],
  (.seq (.region false [] [⟨some 2, .mov (.c (.bool false)), none⟩])
  (.seq (.region false [] [⟨none, .mov (.v 0), none⟩, ⟨none, .mov (.v 1), none⟩, ⟨none, .callm f_spec_l1Cur_pick [(.r 0), (.r 1)], none⟩, ⟨none, .bin false .eql (.r 2) (.c (.int .i64 0)), none⟩, ⟨some 2, .mov (.r 3), none⟩])
  .ret)),
  [.v 2]⟩
def ir_spec_l1Put : IFun := ⟨[0, 1, 4, 5, 6, 18, 32],
  (.seq (.region false [] [⟨some 2, .nilrow t_int true 1, none⟩])
  (.seq (.region false [] [⟨some 3, .mov (.c (.int .i64 0)), none⟩])
  (.seq (.block 0 (.loop [true, true, false, true, false, false, false] (.seq (.seq (.region false [] [⟨none, .mov (.v 3), none⟩, ⟨none, .mov (.v 0), none⟩, ⟨none, .len false (.r 1), none⟩, ⟨none, .bin false .lss (.r 0) (.r 2), none⟩, ⟨none, .mov (.r 3), none⟩, ⟨none, .mov (.v 0), some (4, true)⟩, ⟨none, .mov (.v 3), some (4, true)⟩, ⟨none, .iaddr 1 (.r 5) (.r 6), some (4, true)⟩, ⟨none, .load false 1 (.r 7), some (4, true)⟩, ⟨none, .mov (.v 1), some (4, true)⟩, ⟨none, .bin false .lss (.r 8) (.r 9), some (4, true)⟩, ⟨some 5, .pick (.r 4) (.r 10) (.c (.bool false)), none⟩])
  (.cond (.v 5) .skip (.exit 0)))
  (.block 1 (.region false [] [⟨none, .mov (.v 3), none⟩, ⟨none, .bin false .add (.r 0) (.c (.int .i64 1)), none⟩, ⟨some 3, .mov (.r 1), none⟩])))))
  (.seq (.seq (.region false [] [⟨none, .mov (.v 3), none⟩, ⟨none, .mov (.v 0), none⟩, ⟨none, .len false (.r 1), none⟩, ⟨none, .bin false .lss (.r 0) (.r 2), none⟩, ⟨none, .mov (.r 3), none⟩, ⟨none, .mov (.v 0), some (4, true)⟩, ⟨none, .mov (.v 3), some (4, true)⟩, ⟨none, .iaddr 1 (.r 5) (.r 6), some (4, true)⟩, ⟨none, .load false 1 (.r 7), some (4, true)⟩, ⟨none, .mov (.v 1), some (4, true)⟩, ⟨none, .bin false .eql (.r 8) (.r 9), some (4, true)⟩, ⟨some 6, .pick (.r 4) (.r 10) (.c (.bool false)), none⟩])
  (.cond (.v 6) (.seq (.region false [] [⟨none, .mov (.v 0), none⟩, ⟨some 2, .mov (.r 0), none⟩])
  .ret) .skip))
  (.seq (.region false [] [⟨none, .bslice false t_int true 1 [], none⟩, ⟨none, .mov (.v 0), none⟩, ⟨none, .mov (.v 3), none⟩, ⟨none, .slice 1 (.r 1) none (some (.r 2)), none⟩, ⟨none, .append t_int true 1 (.r 0) (.r 3), none⟩, ⟨some 4, .mov (.r 4), none⟩])
  (.seq (.region false [] [⟨none, .mov (.v 4), none⟩, ⟨none, .mov (.v 1), none⟩, ⟨none, .bslice false t_int true 1 [(.r 1)], none⟩, ⟨none, .append t_int true 1 (.r 0) (.r 2), none⟩, ⟨some 4, .mov (.r 3), none⟩])
  (.seq (.region false [] [⟨none, .mov (.v 4), none⟩, ⟨none, .mov (.v 0), none⟩, ⟨none, .mov (.v 3), none⟩, ⟨none, .slice 1 (.r 1) (some (.r 2)) none, none⟩, ⟨none, .append t_int true 1 (.r 0) (.r 3), none⟩, ⟨some 2, .mov (.r 4), none⟩])
  .ret))))))),
  [.v 2]⟩
def ir_spec_l1Cur_someOf : IFun := ⟨[0, 1, 2, 3, 8, 9, 10, 20],
  (.seq (.region false [] [⟨some 4, .nilrow t_int true 1, none⟩])
  (.seq (.region false [] [⟨some 5, .nilrow t_int true 1, none⟩])
  (.seq (.seq (.region false [] [⟨none, .mov (.v 2), none⟩, ⟨none, .mov (.v 0), none⟩, ⟨none, .mov (.v 3), none⟩, ⟨none, .mov (.v 2), none⟩, ⟨none, .bin false .sub (.r 2) (.r 3), none⟩, ⟨none, .bin false .add (.r 4) (.c (.int .i64 1)), none⟩, ⟨none, .callm f_spec_l1Cur_pick [(.r 1), (.r 5)], none⟩, ⟨none, .bin false .add (.r 0) (.r 6), none⟩, ⟨some 6, .mov (.r 7), none⟩])
  (.block 0 (.loop [true, true, false, false, false, true, true, false] (.seq (.seq (.region false [] [⟨none, .mov (.v 6), none⟩, ⟨some 7, .bin false .gtr (.r 0) (.c (.int .i64 0)), none⟩])
  (.cond (.v 7) .skip (.exit 0)))
  (.seq (.block 1 (.region false [] [⟨none, .mov (.v 5), none⟩, ⟨none, .mov (.v 0), none⟩, ⟨none, .mov (.v 1), none⟩, ⟨none, .callm f_spec_l1Cur_pick [(.r 1), (.r 2)], none⟩, ⟨none, .callm f_spec_l1Put [(.r 0), (.r 3)], none⟩, ⟨some 5, .mov (.r 4), none⟩]))
  (.region false [] [⟨none, .mov (.v 6), none⟩, ⟨none, .bin false .sub (.r 0) (.c (.int .i64 1)), none⟩, ⟨some 6, .mov (.r 1), none⟩]))))))
  (.seq (.region false [] [⟨none, .mov (.v 5), none⟩, ⟨some 4, .mov (.r 0), none⟩])
  .ret)))),
  [.v 4]⟩
def ir_spec_l1Cur_among : IFun := ⟨[0, 1, 4],
  (.seq (.region false [] [⟨some 2, .mov (.c (.int .i64 0)), none⟩])
  (.seq (.region false [] [⟨none, .mov (.v 1), none⟩, ⟨none, .mov (.v 0), none⟩, ⟨none, .mov (.v 1), none⟩, ⟨none, .len false (.r 2), none⟩, ⟨none, .callm f_spec_l1Cur_pick [(.r 1), (.r 3)], none⟩, ⟨none, .iaddr 1 (.r 0) (.r 4), none⟩, ⟨none, .load false 1 (.r 5), none⟩, ⟨some 2, .mov (.r 6), none⟩])
  .ret)),
  [.v 2]⟩
def ir_spec_l1Cur_net : IFun := ⟨[0, 1, 4, 5, 6, 7, 16, 32, 45, 46, 52, 58],
  (.seq (.region false [] [⟨some 2, .alloc t_impl_Net [(.int .i64 0), (.nil false 3)], none⟩])
  (.seq (.region false [] [⟨none, .mov (.v 0), none⟩, ⟨none, .callm f_spec_l1Cur_pick [(.r 0), (.c (.int .i64 4))], none⟩, ⟨none, .bin false .add (.c (.int .i64 2)) (.r 1), none⟩, ⟨none, .build [(.int .i64 0), (.nil false 3)] [(0, 1, (.r 2))], none⟩, ⟨some 3, .alloc t_impl_Net [(.int .i64 0), (.nil false 3)], none⟩, ⟨none, .store 2 (.v 3) (.r 3), none⟩])
  (.seq (.seq (.region false [] [⟨none, .mov (.v 0), none⟩, ⟨none, .callm f_spec_l1Cur_pick [(.r 0), (.c (.int .i64 5))], none⟩, ⟨none, .bin false .add (.c (.int .i64 1)) (.r 1), none⟩, ⟨some 4, .mov (.r 2), none⟩])
  (.block 0 (.loop [true, true, true, true, true, false, false, false, false, false, false, false] (.seq (.seq (.region false [] [⟨none, .mov (.v 4), none⟩, ⟨some 6, .bin false .gtr (.r 0) (.c (.int .i64 0)), none⟩])
  (.cond (.v 6) .skip (.exit 0)))
  (.seq (.block 1 (.seq (.region true [(7, 5)] [⟨none, .mov (.v 0), none⟩, ⟨none, .faddr 0 (.v 3), none⟩, ⟨none, .load false 1 (.r 1), none⟩, ⟨none, .mov (.v 0), none⟩, ⟨none, .faddr 0 (.v 3), none⟩, ⟨none, .load false 1 (.r 4), none⟩, ⟨some 5, .alloc t_impl_Trans [(.nil true 1), (.nil true 1), (.nil true 1)], none⟩, ⟨none, .callm f_spec_l1Cur_someOf [(.r 0), (.r 2), (.c (.int .i64 1)), (.c (.int .i64 2))], none⟩, ⟨none, .callm f_spec_l1Cur_someOf [(.r 3), (.r 5), (.c (.int .i64 0)), (.c (.int .i64 2))], none⟩, ⟨none, .build [(.nil true 1), (.nil true 1), (.nil true 1)] [(0, 1, (.r 7)), (1, 1, (.r 8))], none⟩, ⟨none, .store 3 (.v 5) (.r 9), none⟩])
  (.seq (.seq (.region false [] [⟨none, .mov (.v 1), none⟩, ⟨none, .mov (.r 0), none⟩, ⟨none, .mov (.v 0), some (1, true)⟩, ⟨none, .callm f_spec_l1Cur_one [(.r 2), (.c (.int .i64 5))], some (1, true)⟩, ⟨some 7, .pick (.r 1) (.r 3) (.c (.bool false)), none⟩])
  (.cond (.v 7) (.region false [] [⟨none, .mov (.v 0), none⟩, ⟨none, .faddr 0 (.v 3), none⟩, ⟨none, .load false 1 (.r 1), none⟩, ⟨none, .callm f_spec_l1Cur_someOf [(.r 0), (.r 2), (.c (.int .i64 1)), (.c (.int .i64 2))], none⟩, ⟨none, .faddr 2 (.v 5), none⟩, ⟨none, .store 1 (.r 4) (.r 3), none⟩]) .skip))
  (.region false [] [⟨none, .faddr 1 (.v 3), none⟩, ⟨none, .load false 1 (.r 0), none⟩, ⟨none, .load true 3 (.v 5), none⟩, ⟨none, .bslice false t_impl_Trans false 3 [(.r 2)], none⟩, ⟨none, .append t_impl_Trans false 3 (.r 1) (.r 3), none⟩, ⟨none, .faddr 1 (.v 3), none⟩, ⟨none, .store 1 (.r 5) (.r 4), none⟩]))))
  (.region false [] [⟨none, .mov (.v 4), none⟩, ⟨none, .bin false .sub (.r 0) (.c (.int .i64 1)), none⟩, ⟨some 4, .mov (.r 1), none⟩]))))))
  (.seq (.seq (.region false [] [⟨none, .mov (.v 0), none⟩, ⟨some 8, .callm f_spec_l1Cur_pick [(.r 0), (.c (.int .i64 40))], none⟩])
  (.block 2 (.seq (.region false [] [⟨none, .bin false .eql (.v 8) (.c (.int .i64 0)), none⟩, ⟨some 9, .mov (.r 0), none⟩])
  (.cond (.v 9) (.region false [] [⟨none, .mov (.v 0), none⟩, ⟨none, .bslice false t_int true 1 [(.c (.int .i64 0)), (.c (.int .i64 1)), (.c (.int .i64 17))], none⟩, ⟨none, .callm f_spec_l1Cur_among [(.r 0), (.r 1)], none⟩, ⟨none, .faddr 0 (.v 3), none⟩, ⟨none, .store 1 (.r 3) (.r 2), none⟩]) (.seq (.region false [] [⟨none, .bin false .eql (.v 8) (.c (.int .i64 1)), none⟩, ⟨some 10, .mov (.r 0), none⟩])
  (.cond (.v 10) (.region false [] [⟨none, .faddr 1 (.v 3), none⟩, ⟨none, .load false 1 (.r 0), none⟩, ⟨none, .iaddr 3 (.r 1) (.c (.int .i64 0)), none⟩, ⟨none, .faddr 0 (.r 2), none⟩, ⟨none, .store 1 (.r 3) (.c (.nil true 1)), none⟩]) (.seq (.region false [] [⟨none, .bin false .eql (.v 8) (.c (.int .i64 2)), none⟩, ⟨some 11, .mov (.r 0), none⟩])
  (.cond (.v 11) (.region false [] [⟨none, .faddr 1 (.v 3), none⟩, ⟨none, .load false 1 (.r 0), none⟩, ⟨none, .bslice false t_int true 1 [(.c (.int .i64 1)), (.c (.int .i64 0))], none⟩, ⟨none, .iaddr 3 (.r 1) (.c (.int .i64 0)), none⟩, ⟨none, .faddr 1 (.r 3), none⟩, ⟨none, .store 1 (.r 4) (.r 2), none⟩]) .skip))))))))
  (.seq (.region false [] [⟨none, .load true 2 (.v 3), none⟩, ⟨none, .store 2 (.v 2) (.r 0), none⟩])
  .ret))))),
  [.cell true 2 2]⟩
def ir_spec_l1Most : IFun := ⟨[0, 1, 4, 7],
  (.seq (.region false [] [⟨some 2, .mov (.c (.int .i64 0)), none⟩])
  (.seq (.seq (.region false [] [⟨none, .mov (.v 0), none⟩, ⟨none, .mov (.v 1), none⟩, ⟨some 3, .bin false .gtr (.r 0) (.r 1), none⟩])
  (.cond (.v 3) (.seq (.region false [] [⟨none, .mov (.v 0), none⟩, ⟨some 2, .mov (.r 0), none⟩])
  .ret) .skip))
  (.seq (.region false [] [⟨none, .mov (.v 1), none⟩, ⟨some 2, .mov (.r 0), none⟩])
  .ret))),
  [.v 2]⟩
def ir_spec_l1Least : IFun := ⟨[0, 1, 4, 7],
  (.seq (.region false [] [⟨some 2, .mov (.c (.int .i64 0)), none⟩])
  (.seq (.seq (.region false [] [⟨none, .mov (.v 0), none⟩, ⟨none, .mov (.v 1), none⟩, ⟨some 3, .bin false .lss (.r 0) (.r 1), none⟩])
  (.cond (.v 3) (.seq (.region false [] [⟨none, .mov (.v 0), none⟩, ⟨some 2, .mov (.r 0), none⟩])
  .ret) .skip))
  (.seq (.region false [] [⟨none, .mov (.v 1), none⟩, ⟨some 2, .mov (.r 0), none⟩])
  .ret))),
  [.v 2]⟩
def ir_spec_l1Cur_grow : IFun := ⟨[0, 1, 2, 3, 4, 10, 27, 47, 91, 115, 131],
  (.seq (.seq (.region false [] [⟨none, .mov (.v 4), none⟩, ⟨none, .bin false .eql (.r 0) (.c (.int .i64 0)), none⟩, ⟨none, .mov (.r 1), none⟩, ⟨none, .mov (.v 1), some (2, false)⟩, ⟨none, .ncheck (.r 3), some (2, false)⟩, ⟨none, .faddr 0 (.r 4), some (2, false)⟩, ⟨none, .load false 1 (.r 5), some (2, false)⟩, ⟨none, .bin false .gtr (.r 6) (.c (.int .i64 9)), some (2, false)⟩, ⟨none, .pick (.r 2) (.c (.bool true)) (.r 7), none⟩, ⟨none, .mov (.r 8), none⟩, ⟨none, .mov (.v 1), some (9, false)⟩, ⟨none, .ncheck (.r 10), some (9, false)⟩, ⟨none, .faddr 1 (.r 11), some (9, false)⟩, ⟨none, .load false 1 (.r 12), some (9, false)⟩, ⟨none, .len false (.r 13), some (9, false)⟩, ⟨none, .bin false .gtr (.r 14) (.c (.int .i64 12)), some (9, false)⟩, ⟨some 6, .pick (.r 9) (.c (.bool true)) (.r 15), none⟩])
  (.cond (.v 6) (.seq (.region false [] [⟨none, .mov (.v 1), none⟩, ⟨none, .mov (.v 1), none⟩, ⟨none, .ncheck (.r 1), none⟩, ⟨none, .faddr 1 (.r 2), none⟩, ⟨none, .load false 1 (.r 3), none⟩, ⟨none, .mov (.v 2), none⟩, ⟨none, .bslice false t_int true 1 [(.r 5)], none⟩, ⟨none, .mov (.v 3), none⟩, ⟨none, .bslice false t_int true 1 [(.r 7)], none⟩, ⟨none, .build [(.nil true 1), (.nil true 1), (.nil true 1)] [(0, 1, (.r 6)), (1, 1, (.r 8))], none⟩, ⟨none, .bslice false t_impl_Trans false 3 [(.r 9)], none⟩, ⟨none, .append t_impl_Trans false 3 (.r 4) (.r 10), none⟩, ⟨none, .ncheck (.r 0), none⟩, ⟨none, .faddr 1 (.r 12), none⟩, ⟨none, .store 1 (.r 13) (.r 11), none⟩])
  .ret) .skip))
  (.seq (.region false [] [⟨none, .mov (.v 1), none⟩, ⟨none, .ncheck (.r 0), none⟩, ⟨none, .faddr 0 (.r 1), none⟩, ⟨none, .load false 1 (.r 2), none⟩, ⟨some 5, .mov (.r 3), none⟩])
  (.seq (.region false [] [⟨none, .mov (.v 0), none⟩, ⟨some 7, .callm f_spec_l1Cur_pick [(.r 0), (.c (.int .i64 5))], none⟩])
  (.block 0 (.seq (.seq (.region false [] [⟨none, .bin false .eql (.v 7) (.c (.int .i64 0)), none⟩, ⟨some 8, .mov (.r 0), none⟩])
  (.cond (.v 8) .skip (.region false [] [⟨none, .bin false .eql (.v 7) (.c (.int .i64 1)), none⟩, ⟨some 8, .mov (.r 0), none⟩])))
  (.cond (.v 8) (.seq (.region false [] [⟨none, .mov (.v 1), none⟩, ⟨none, .ncheck (.r 0), none⟩, ⟨none, .faddr 0 (.r 1), none⟩, ⟨none, .load false 1 (.r 2), none⟩, ⟨none, .bin false .add (.r 3) (.c (.int .i64 1)), none⟩, ⟨none, .ncheck (.r 0), none⟩, ⟨none, .faddr 0 (.r 5), none⟩, ⟨none, .store 1 (.r 6) (.r 4), none⟩])
  (.seq (.region false [] [⟨none, .mov (.v 0), none⟩, ⟨none, .mov (.v 1), none⟩, ⟨none, .mov (.v 2), none⟩, ⟨none, .mov (.v 5), none⟩, ⟨none, .mov (.v 4), none⟩, ⟨none, .bin false .sub (.r 4) (.c (.int .i64 1)), none⟩, ⟨none, .callm f_spec_l1Cur_grow [(.r 0), (.r 1), (.r 2), (.r 3), (.r 5)], none⟩])
  (.region false [] [⟨none, .mov (.v 0), none⟩, ⟨none, .mov (.v 1), none⟩, ⟨none, .mov (.v 5), none⟩, ⟨none, .mov (.v 3), none⟩, ⟨none, .mov (.v 4), none⟩, ⟨none, .bin false .sub (.r 4) (.c (.int .i64 1)), none⟩, ⟨none, .callm f_spec_l1Cur_grow [(.r 0), (.r 1), (.r 2), (.r 3), (.r 5)], none⟩]))) (.seq (.region false [] [⟨none, .bin false .eql (.v 7) (.c (.int .i64 2)), none⟩, ⟨some 9, .mov (.r 0), none⟩])
  (.cond (.v 9) (.seq (.region false [] [⟨none, .mov (.v 0), none⟩, ⟨none, .mov (.v 1), none⟩, ⟨none, .mov (.v 2), none⟩, ⟨none, .mov (.v 3), none⟩, ⟨none, .mov (.v 4), none⟩, ⟨none, .bin false .sub (.r 4) (.c (.int .i64 1)), none⟩, ⟨none, .callm f_spec_l1Cur_grow [(.r 0), (.r 1), (.r 2), (.r 3), (.r 5)], none⟩])
  (.region false [] [⟨none, .mov (.v 0), none⟩, ⟨none, .mov (.v 1), none⟩, ⟨none, .mov (.v 2), none⟩, ⟨none, .mov (.v 3), none⟩, ⟨none, .mov (.v 4), none⟩, ⟨none, .bin false .sub (.r 4) (.c (.int .i64 1)), none⟩, ⟨none, .callm f_spec_l1Cur_grow [(.r 0), (.r 1), (.r 2), (.r 3), (.r 5)], none⟩])) (.seq (.region false [] [⟨none, .bin false .eql (.v 7) (.c (.int .i64 3)), none⟩, ⟨some 10, .mov (.r 0), none⟩])
  (.cond (.v 10) (.seq (.region false [] [⟨none, .mov (.v 1), none⟩, ⟨none, .ncheck (.r 0), none⟩, ⟨none, .faddr 0 (.r 1), none⟩, ⟨none, .load false 1 (.r 2), none⟩, ⟨none, .bin false .add (.r 3) (.c (.int .i64 4)), none⟩, ⟨none, .ncheck (.r 0), none⟩, ⟨none, .faddr 0 (.r 5), none⟩, ⟨none, .store 1 (.r 6) (.r 4), none⟩])
  (.seq (.region true [(18, 4), (20, 4)] [⟨none, .mov (.v 1), none⟩, ⟨none, .mov (.v 1), none⟩, ⟨none, .ncheck (.r 1), none⟩, ⟨none, .faddr 1 (.r 2), none⟩, ⟨none, .load false 1 (.r 3), none⟩, ⟨none, .mov (.v 2), none⟩, ⟨none, .bslice true t_int true 1 [(.r 5)], none⟩, ⟨none, .mov (.v 5), none⟩, ⟨none, .mov (.v 5), none⟩, ⟨none, .bin false .add (.r 8) (.c (.int .i64 1)), none⟩, ⟨none, .bslice true t_int true 1 [(.r 7), (.r 9)], none⟩, ⟨none, .build [(.nil true 1), (.nil true 1), (.nil true 1)] [(0, 1, (.r 6)), (1, 1, (.r 10))], none⟩, ⟨none, .mov (.v 5), none⟩, ⟨none, .bin false .add (.r 12) (.c (.int .i64 2)), none⟩, ⟨none, .mov (.v 5), none⟩, ⟨none, .bin false .add (.r 14) (.c (.int .i64 3)), none⟩, ⟨none, .bslice true t_int true 1 [(.r 13), (.r 15)], none⟩, ⟨none, .mov (.v 3), none⟩, ⟨none, .callm f_spec_l1Put [(.c (.nil true 1)), (.r 17)], none⟩, ⟨none, .build [(.nil true 1), (.nil true 1), (.nil true 1)] [(0, 1, (.r 16)), (1, 1, (.r 18))], none⟩, ⟨none, .bslice false t_impl_Trans false 3 [(.r 11), (.r 19)], none⟩, ⟨none, .append t_impl_Trans false 3 (.r 4) (.r 20), none⟩, ⟨none, .ncheck (.r 0), none⟩, ⟨none, .faddr 1 (.r 22), none⟩, ⟨none, .store 1 (.r 23) (.r 21), none⟩])
  (.seq (.region false [] [⟨none, .mov (.v 0), none⟩, ⟨none, .mov (.v 1), none⟩, ⟨none, .mov (.v 5), none⟩, ⟨none, .mov (.v 5), none⟩, ⟨none, .bin false .add (.r 3) (.c (.int .i64 2)), none⟩, ⟨none, .mov (.v 4), none⟩, ⟨none, .bin false .sub (.r 5) (.c (.int .i64 1)), none⟩, ⟨none, .callm f_spec_l1Cur_grow [(.r 0), (.r 1), (.r 2), (.r 4), (.r 6)], none⟩])
  (.region false [] [⟨none, .mov (.v 0), none⟩, ⟨none, .mov (.v 1), none⟩, ⟨none, .mov (.v 5), none⟩, ⟨none, .bin false .add (.r 2) (.c (.int .i64 1)), none⟩, ⟨none, .mov (.v 5), none⟩, ⟨none, .bin false .add (.r 4) (.c (.int .i64 3)), none⟩, ⟨none, .mov (.v 4), none⟩, ⟨none, .bin false .sub (.r 6) (.c (.int .i64 1)), none⟩, ⟨none, .callm f_spec_l1Cur_grow [(.r 0), (.r 1), (.r 3), (.r 5), (.r 7)], none⟩])))) (.seq (.region false [] [⟨none, .mov (.v 1), none⟩, ⟨none, .ncheck (.r 0), none⟩, ⟨none, .faddr 0 (.r 1), none⟩, ⟨none, .load false 1 (.r 2), none⟩, ⟨none, .bin false .add (.r 3) (.c (.int .i64 2)), none⟩, ⟨none, .ncheck (.r 0), none⟩, ⟨none, .faddr 0 (.r 5), none⟩, ⟨none, .store 1 (.r 6) (.r 4), none⟩])
  (.seq (.region false [] [⟨none, .mov (.v 1), none⟩, ⟨none, .mov (.v 1), none⟩, ⟨none, .ncheck (.r 1), none⟩, ⟨none, .faddr 1 (.r 2), none⟩, ⟨none, .load false 1 (.r 3), none⟩, ⟨none, .mov (.v 2), none⟩, ⟨none, .bslice false t_int true 1 [(.r 5)], none⟩, ⟨none, .mov (.v 5), none⟩, ⟨none, .bslice false t_int true 1 [(.r 7)], none⟩, ⟨none, .build [(.nil true 1), (.nil true 1), (.nil true 1)] [(0, 1, (.r 6)), (1, 1, (.r 8))], none⟩, ⟨none, .mov (.v 5), none⟩, ⟨none, .bin false .add (.r 10) (.c (.int .i64 1)), none⟩, ⟨none, .bslice false t_int true 1 [(.r 11)], none⟩, ⟨none, .mov (.v 3), none⟩, ⟨none, .bslice false t_int true 1 [(.r 13)], none⟩, ⟨none, .build [(.nil true 1), (.nil true 1), (.nil true 1)] [(0, 1, (.r 12)), (1, 1, (.r 14))], none⟩, ⟨none, .bslice false t_impl_Trans false 3 [(.r 9), (.r 15)], none⟩, ⟨none, .append t_impl_Trans false 3 (.r 4) (.r 16), none⟩, ⟨none, .ncheck (.r 0), none⟩, ⟨none, .faddr 1 (.r 18), none⟩, ⟨none, .store 1 (.r 19) (.r 17), none⟩])
  (.seq (.region false [] [⟨none, .mov (.v 0), none⟩, ⟨none, .mov (.v 1), none⟩, ⟨none, .mov (.v 5), none⟩, ⟨none, .mov (.v 5), none⟩, ⟨none, .bin false .add (.r 3) (.c (.int .i64 1)), none⟩, ⟨none, .mov (.v 4), none⟩, ⟨none, .bin false .sub (.r 5) (.c (.int .i64 1)), none⟩, ⟨none, .callm f_spec_l1Cur_grow [(.r 0), (.r 1), (.r 2), (.r 4), (.r 6)], none⟩])
  (.region false [] [⟨none, .mov (.v 0), none⟩, ⟨none, .mov (.v 1), none⟩, ⟨none, .mov (.v 5), none⟩, ⟨none, .bin false .add (.r 2) (.c (.int .i64 1)), none⟩, ⟨none, .mov (.v 5), none⟩, ⟨none, .mov (.v 4), none⟩, ⟨none, .bin false .sub (.r 5) (.c (.int .i64 1)), none⟩, ⟨none, .callm f_spec_l1Cur_grow [(.r 0), (.r 1), (.r 3), (.r 4), (.r 6)], none⟩])))))))))))))),
  []⟩
def ir_spec_l1Cur_flow : IFun := ⟨[0, 1, 4, 5, 6, 7, 23, 24, 46, 67, 88, 90, 103],
  (.seq (.region false [] [⟨some 2, .alloc t_impl_Flow [(.int .i64 0), (.nil false 3), (.int .i64 0), (.int .i64 0)], none⟩])
  (.seq (.region false [] [⟨none, .build [(.int .i64 0), (.nil false 3)] [(0, 1, (.c (.int .i64 2)))], none⟩, ⟨some 3, .alloc t_impl_Net [(.int .i64 0), (.nil false 3)], none⟩, ⟨none, .store 2 (.v 3) (.r 0), none⟩])
  (.seq (.region false [] [⟨none, .mov (.v 0), none⟩, ⟨none, .mov (.v 0), none⟩, ⟨none, .callm f_spec_l1Cur_pick [(.r 1), (.c (.int .i64 3))], none⟩, ⟨none, .bin false .add (.c (.int .i64 1)) (.r 2), none⟩, ⟨none, .callm f_spec_l1Cur_grow [(.r 0), (.v 3), (.c (.int .i64 0)), (.c (.int .i64 1)), (.r 3)], none⟩])
  (.seq (.region false [] [⟨none, .load true 2 (.v 3), none⟩, ⟨none, .build [(.int .i64 0), (.nil false 3), (.int .i64 0), (.int .i64 0)] [(0, 2, (.r 0)), (2, 1, (.c (.int .i64 0))), (3, 1, (.c (.int .i64 1)))], none⟩, ⟨some 4, .alloc t_impl_Flow [(.int .i64 0), (.nil false 3), (.int .i64 0), (.int .i64 0)], none⟩, ⟨none, .store 4 (.v 4) (.r 1), none⟩])
  (.seq (.region false [] [⟨none, .mov (.v 0), none⟩, ⟨none, .faddr 0 (.v 4), none⟩, ⟨none, .faddr 1 (.r 1), none⟩, ⟨none, .load false 1 (.r 2), none⟩, ⟨none, .len false (.r 3), none⟩, ⟨none, .callm f_spec_l1Cur_pick [(.r 0), (.r 4)], none⟩, ⟨some 5, .mov (.r 5), none⟩])
  (.seq (.seq (.region false [] [⟨none, .mov (.v 0), none⟩, ⟨some 6, .callm f_spec_l1Cur_pick [(.r 0), (.c (.int .i64 9))], none⟩])
  (.block 0 (.seq (.region false [] [⟨none, .bin false .eql (.v 6) (.c (.int .i64 0)), none⟩, ⟨some 7, .mov (.r 0), none⟩])
  (.cond (.v 7) (.region true [(11, 2), (11, 10), (13, 2), (16, 2)] [⟨none, .faddr 0 (.v 4), none⟩, ⟨none, .faddr 1 (.r 0), none⟩, ⟨none, .load false 1 (.r 1), none⟩, ⟨none, .mov (.v 0), none⟩, ⟨none, .faddr 0 (.v 4), none⟩, ⟨none, .faddr 0 (.r 4), none⟩, ⟨none, .load false 1 (.r 5), none⟩, ⟨none, .mov (.v 0), none⟩, ⟨none, .faddr 0 (.v 4), none⟩, ⟨none, .faddr 0 (.r 8), none⟩, ⟨none, .load false 1 (.r 9), none⟩, ⟨none, .callm f_spec_l1Cur_pick [(.r 3), (.r 6)], none⟩, ⟨none, .bslice true t_int true 1 [(.r 11)], none⟩, ⟨none, .callm f_spec_l1Cur_pick [(.r 7), (.r 10)], none⟩, ⟨none, .bslice true t_int true 1 [(.r 13)], none⟩, ⟨none, .build [(.nil true 1), (.nil true 1), (.nil true 1)] [(0, 1, (.r 12)), (1, 1, (.r 14))], none⟩, ⟨none, .bslice false t_impl_Trans false 3 [(.r 15)], none⟩, ⟨none, .append t_impl_Trans false 3 (.r 2) (.r 16), none⟩, ⟨none, .faddr 0 (.v 4), none⟩, ⟨none, .faddr 1 (.r 18), none⟩, ⟨none, .store 1 (.r 19) (.r 17), none⟩]) (.seq (.region false [] [⟨none, .bin false .eql (.v 6) (.c (.int .i64 1)), none⟩, ⟨some 8, .mov (.r 0), none⟩])
  (.cond (.v 8) (.region true [(15, 2), (15, 6), (15, 10), (16, 2)] [⟨none, .faddr 0 (.v 4), none⟩, ⟨none, .faddr 1 (.r 0), none⟩, ⟨none, .load false 1 (.r 1), none⟩, ⟨none, .mov (.v 5), none⟩, ⟨none, .faddr 0 (.v 4), none⟩, ⟨none, .faddr 1 (.r 4), none⟩, ⟨none, .load false 1 (.r 5), none⟩, ⟨none, .mov (.v 5), none⟩, ⟨none, .iaddr 3 (.r 6) (.r 7), none⟩, ⟨none, .faddr 1 (.r 8), none⟩, ⟨none, .load false 1 (.r 9), none⟩, ⟨none, .mov (.v 0), none⟩, ⟨none, .faddr 0 (.v 4), none⟩, ⟨none, .faddr 0 (.r 12), none⟩, ⟨none, .load false 1 (.r 13), none⟩, ⟨none, .callm f_spec_l1Cur_pick [(.r 11), (.r 14)], none⟩, ⟨none, .callm f_spec_l1Put [(.r 10), (.r 15)], none⟩, ⟨none, .iaddr 3 (.r 2) (.r 3), none⟩, ⟨none, .faddr 1 (.r 17), none⟩, ⟨none, .store 1 (.r 18) (.r 16), none⟩]) (.seq (.region false [] [⟨none, .bin false .eql (.v 6) (.c (.int .i64 2)), none⟩, ⟨some 9, .mov (.r 0), none⟩])
  (.cond (.v 9) (.region true [(15, 2), (15, 6), (15, 10), (16, 2)] [⟨none, .faddr 0 (.v 4), none⟩, ⟨none, .faddr 1 (.r 0), none⟩, ⟨none, .load false 1 (.r 1), none⟩, ⟨none, .mov (.v 5), none⟩, ⟨none, .faddr 0 (.v 4), none⟩, ⟨none, .faddr 1 (.r 4), none⟩, ⟨none, .load false 1 (.r 5), none⟩, ⟨none, .mov (.v 5), none⟩, ⟨none, .iaddr 3 (.r 6) (.r 7), none⟩, ⟨none, .faddr 0 (.r 8), none⟩, ⟨none, .load false 1 (.r 9), none⟩, ⟨none, .mov (.v 0), none⟩, ⟨none, .faddr 0 (.v 4), none⟩, ⟨none, .faddr 0 (.r 12), none⟩, ⟨none, .load false 1 (.r 13), none⟩, ⟨none, .callm f_spec_l1Cur_pick [(.r 11), (.r 14)], none⟩, ⟨none, .callm f_spec_l1Put [(.r 10), (.r 15)], none⟩, ⟨none, .iaddr 3 (.r 2) (.r 3), none⟩, ⟨none, .faddr 0 (.r 17), none⟩, ⟨none, .store 1 (.r 18) (.r 16), none⟩]) (.seq (.region false [] [⟨none, .bin false .eql (.v 6) (.c (.int .i64 3)), none⟩, ⟨some 10, .mov (.r 0), none⟩])
  (.cond (.v 10) (.seq (.region false [] [⟨some 11, .mov (.v 1), none⟩])
  (.cond (.v 11) (.region true [(8, 2)] [⟨none, .faddr 0 (.v 4), none⟩, ⟨none, .faddr 1 (.r 0), none⟩, ⟨none, .load false 1 (.r 1), none⟩, ⟨none, .mov (.v 5), none⟩, ⟨none, .mov (.v 0), none⟩, ⟨none, .faddr 0 (.v 4), none⟩, ⟨none, .faddr 0 (.r 5), none⟩, ⟨none, .load false 1 (.r 6), none⟩, ⟨none, .callm f_spec_l1Cur_someOf [(.r 4), (.r 7), (.c (.int .i64 1)), (.c (.int .i64 2))], none⟩, ⟨none, .iaddr 3 (.r 2) (.r 3), none⟩, ⟨none, .faddr 2 (.r 9), none⟩, ⟨none, .store 1 (.r 10) (.r 8), none⟩]) .skip)) .skip))))))))))
  (.seq (.seq (.region false [] [⟨none, .mov (.v 0), none⟩, ⟨some 12, .callm f_spec_l1Cur_one [(.r 0), (.c (.int .i64 30))], none⟩])
  (.cond (.v 12) (.region false [] [⟨none, .mov (.v 0), none⟩, ⟨none, .bslice false t_int true 1 [(.c (.int .i64 0)), (.c (.int .i64 (-1))), (.c (.int .i64 2)), (.c (.int .i64 17))], none⟩, ⟨none, .callm f_spec_l1Cur_among [(.r 0), (.r 1)], none⟩, ⟨none, .faddr 3 (.v 4), none⟩, ⟨none, .store 1 (.r 3) (.r 2), none⟩]) .skip))
  (.seq (.region false [] [⟨none, .load true 4 (.v 4), none⟩, ⟨none, .store 4 (.v 2) (.r 0), none⟩])
  .ret)))))))),
  [.cell true 4 2]⟩
def ir_spec_l1Cur_kept : IFun := ⟨[0, 2, 3, 4, 5, 11, 13, 14, 15, 16, 44],
  (.seq (.region false [] [⟨some 1, .alloc t_impl_Net [(.int .i64 0), (.nil false 3)], none⟩])
  (.seq (.region false [] [⟨none, .mov (.v 0), none⟩, ⟨none, .mov (.v 0), none⟩, ⟨none, .callm f_spec_l1Cur_one [(.r 1), (.c (.int .i64 20))], none⟩, ⟨none, .callm f_spec_l1Cur_net [(.r 0), (.r 2)], none⟩, ⟨some 2, .alloc t_impl_Net [(.int .i64 0), (.nil false 3)], none⟩, ⟨none, .store 2 (.v 2) (.r 3), none⟩])
  (.seq (.seq (.region false [] [⟨none, .mov (.v 0), none⟩, ⟨some 5, .callm f_spec_l1Cur_one [(.r 0), (.c (.int .i64 2))], none⟩])
  (.cond (.v 5) (.seq (.region false [] [⟨none, .faddr 1 (.v 2), none⟩, ⟨some 6, .load false 1 (.r 0), none⟩, ⟨some 7, .len false (.v 6), none⟩, ⟨some 8, .mov (.c (.int .i64 0)), none⟩])
  (.block 0 (.loop [true, true, true, false, false, false, true, true, true, false, false] (.seq (.region false [] [⟨some 9, .bin false .lss (.v 8) (.v 7), none⟩])
  (.seq (.cond (.v 9) .skip (.exit 0))
  (.seq (.block 1 (.seq (.region false [] [⟨none, .mov (.v 8), none⟩, ⟨none, .iaddr 3 (.v 6) (.v 8), none⟩, ⟨none, .load true 3 (.r 1), none⟩, ⟨some 4, .alloc t_impl_Trans [(.nil true 1), (.nil true 1), (.nil true 1)], none⟩, ⟨some 3, .mov (.r 0), none⟩, ⟨none, .store 3 (.v 4) (.r 2), none⟩])
  (.seq (.region true [(6, 1), (7, 1)] [⟨none, .faddr 1 (.v 2), none⟩, ⟨none, .load false 1 (.r 0), none⟩, ⟨none, .mov (.v 3), none⟩, ⟨none, .mov (.v 0), none⟩, ⟨none, .faddr 0 (.v 2), none⟩, ⟨none, .load false 1 (.r 4), none⟩, ⟨none, .call false f_spec_l1Most [(.c (.int .i64 2)), (.r 5)], none⟩, ⟨none, .callm f_spec_l1Cur_someOf [(.r 3), (.r 6), (.c (.int .i64 1)), (.c (.int .i64 1))], none⟩, ⟨none, .iaddr 3 (.r 1) (.r 2), none⟩, ⟨none, .faddr 1 (.r 8), none⟩, ⟨none, .store 1 (.r 9) (.r 7), none⟩])
  (.region true [(8, 1), (8, 4)] [⟨none, .faddr 1 (.v 2), none⟩, ⟨none, .load false 1 (.r 0), none⟩, ⟨none, .mov (.v 3), none⟩, ⟨none, .faddr 0 (.v 4), none⟩, ⟨none, .load false 1 (.r 3), none⟩, ⟨none, .faddr 0 (.v 4), none⟩, ⟨none, .load false 1 (.r 5), none⟩, ⟨none, .len false (.r 6), none⟩, ⟨none, .call false f_spec_l1Least [(.c (.int .i64 1)), (.r 7)], none⟩, ⟨none, .slice 1 (.r 4) none (some (.r 8)), none⟩, ⟨none, .iaddr 3 (.r 1) (.r 2), none⟩, ⟨none, .faddr 0 (.r 10), none⟩, ⟨none, .store 1 (.r 11) (.r 9), none⟩]))))
  (.region false [] [⟨none, .bin false .add (.v 8) (.c (.int .i64 1)), none⟩, ⟨some 8, .mov (.r 0), none⟩]))))))) .skip))
  (.seq (.seq (.region false [] [⟨none, .mov (.v 0), none⟩, ⟨some 10, .callm f_spec_l1Cur_one [(.r 0), (.c (.int .i64 3))], none⟩])
  (.cond (.v 10) (.seq (.region false [] [⟨none, .mov (.v 0), none⟩, ⟨none, .callm f_spec_l1Cur_flow [(.r 0), (.c (.bool false))], none⟩, ⟨none, .field true 0 2 (.r 1), none⟩, ⟨none, .store 2 (.v 1) (.r 2), none⟩])
  .ret) .skip))
  (.seq (.region false [] [⟨none, .load true 2 (.v 2), none⟩, ⟨none, .store 2 (.v 1) (.r 0), none⟩])
  .ret))))),
  [.cell true 2 1]⟩
def ir_spec_l1Cur_markOf : IFun := ⟨[0, 1, 3, 4, 5, 6, 10, 26],
  (.seq (.region false [] [⟨some 2, .box t_impl_Net 2 (.v 1), none⟩, ⟨some 3, .nilrow t_int true 1, none⟩])
  (.seq (.region false [] [⟨some 4, .nilrow t_int true 1, none⟩])
  (.seq (.seq (.region false [] [⟨some 5, .mov (.c (.int .i64 0)), none⟩])
  (.block 0 (.loop [true, false, true, false, true, true, false, false] (.seq (.seq (.region false [] [⟨none, .mov (.v 5), none⟩, ⟨none, .faddr 0 (.v 2), none⟩, ⟨none, .load false 1 (.r 1), none⟩, ⟨some 6, .bin false .lss (.r 0) (.r 2), none⟩])
  (.cond (.v 6) .skip (.exit 0)))
  (.seq (.block 1 (.region false [] [⟨none, .mov (.v 4), none⟩, ⟨none, .mov (.v 0), none⟩, ⟨none, .callm f_spec_l1Cur_pick [(.r 1), (.c (.int .i64 4))], none⟩, ⟨none, .bin false .sub (.r 2) (.c (.int .i64 1)), none⟩, ⟨none, .call false f_spec_l1Most [(.c (.int .i64 0)), (.r 3)], none⟩, ⟨none, .bslice false t_int true 1 [(.r 4)], none⟩, ⟨none, .append t_int true 1 (.r 0) (.r 5), none⟩, ⟨some 4, .mov (.r 6), none⟩]))
  (.region false [] [⟨none, .mov (.v 5), none⟩, ⟨none, .bin false .add (.r 0) (.c (.int .i64 1)), none⟩, ⟨some 5, .mov (.r 1), none⟩]))))))
  (.seq (.seq (.region false [] [⟨none, .mov (.v 0), none⟩, ⟨none, .callm f_spec_l1Cur_one [(.r 0), (.c (.int .i64 30))], none⟩, ⟨none, .mov (.r 1), none⟩, ⟨none, .mov (.v 4), some (2, true)⟩, ⟨none, .len false (.r 3), some (2, true)⟩, ⟨none, .bin false .gtr (.r 4) (.c (.int .i64 0)), some (2, true)⟩, ⟨some 7, .pick (.r 2) (.r 5) (.c (.bool false)), none⟩])
  (.cond (.v 7) (.region false [] [⟨none, .mov (.v 4), none⟩, ⟨none, .mov (.v 0), none⟩, ⟨none, .bslice false t_int true 1 [(.c (.int .i64 50)), (.c (.int .i64 51)), (.c (.int .i64 (-1)))], none⟩, ⟨none, .callm f_spec_l1Cur_among [(.r 1), (.r 2)], none⟩, ⟨none, .iaddr 1 (.r 0) (.c (.int .i64 0)), none⟩, ⟨none, .store 1 (.r 4) (.r 3), none⟩]) .skip))
  (.seq (.region false [] [⟨none, .mov (.v 4), none⟩, ⟨some 3, .mov (.r 0), none⟩])
  .ret))))),
  [.v 3]⟩
def ir_spec_DrawIsGuarded : IFun := ⟨[0, 2, 3, 4, 5],
  (.seq (.region false [] [⟨some 1, .alloc t_impl_Net [(.int .i64 0), (.nil false 3)], none⟩, ⟨some 2, .nilrow t_int true 1, none⟩])
  (.seq (.region false [] [⟨none, .mov (.v 0), none⟩, ⟨none, .build [(.nil true 1), (.int .i64 0), (.int .u64 0)] [(0, 1, (.r 0))], none⟩, ⟨none, .box t_spec_l1Cur 3 (.r 1), none⟩, ⟨some 3, .mov (.r 2), none⟩])
  (.seq (.region false [] [⟨none, .mov (.v 3), none⟩, ⟨none, .callm f_spec_l1Cur_kept [(.r 0)], none⟩, ⟨some 4, .alloc t_impl_Net [(.int .i64 0), (.nil false 3)], none⟩, ⟨none, .store 2 (.v 4) (.r 1), none⟩])
  (.seq (.region true [(3, 0)] [⟨none, .load true 2 (.v 4), none⟩, ⟨none, .mov (.v 3), none⟩, ⟨none, .load true 2 (.v 4), none⟩, ⟨none, .callm f_spec_l1Cur_markOf [(.r 1), (.r 2)], none⟩, ⟨none, .store 2 (.v 1) (.r 0), none⟩, ⟨some 2, .mov (.r 3), none⟩])
  .ret)))),
  [.cell true 2 1, .v 2]⟩
def ir_impl_within : IFun := ⟨[0, 1, 2, 6],
  (.seq (.region false [] [⟨some 3, .mov (.c (.bool false)), none⟩])
  (.seq (.region false [] [⟨none, .mov (.v 0), none⟩, ⟨none, .mov (.v 1), none⟩, ⟨none, .bin false .geq (.r 0) (.r 1), none⟩, ⟨none, .mov (.r 2), none⟩, ⟨none, .mov (.v 0), some (3, true)⟩, ⟨none, .mov (.v 2), some (3, true)⟩, ⟨none, .bin false .leq (.r 4) (.r 5), some (3, true)⟩, ⟨none, .pick (.r 3) (.r 6) (.c (.bool false)), none⟩, ⟨some 3, .mov (.r 7), none⟩])
  .ret)),
  [.v 3]⟩
def ir_impl_increasing : IFun := ⟨[0, 2, 3, 7, 19],
  (.seq (.region false [] [⟨some 1, .mov (.c (.bool false)), none⟩])
  (.seq (.seq (.region false [] [⟨some 2, .mov (.c (.int .i64 1)), none⟩])
  (.block 0 (.loop [true, false, true, false, false] (.seq (.seq (.region false [] [⟨none, .mov (.v 2), none⟩, ⟨none, .mov (.v 0), none⟩, ⟨none, .len false (.r 1), none⟩, ⟨some 3, .bin false .lss (.r 0) (.r 2), none⟩])
  (.cond (.v 3) .skip (.exit 0)))
  (.seq (.block 1 (.seq (.region true [] [⟨none, .mov (.v 0), none⟩, ⟨none, .mov (.v 2), none⟩, ⟨none, .bin false .sub (.r 1) (.c (.int .i64 1)), none⟩, ⟨none, .iaddr 1 (.r 0) (.r 2), none⟩, ⟨none, .load false 1 (.r 3), none⟩, ⟨none, .mov (.v 0), none⟩, ⟨none, .mov (.v 2), none⟩, ⟨none, .iaddr 1 (.r 5) (.r 6), none⟩, ⟨none, .load false 1 (.r 7), none⟩, ⟨some 4, .bin false .geq (.r 4) (.r 8), none⟩])
  (.cond (.v 4) (.seq (.region false [] [⟨some 1, .mov (.c (.bool false)), none⟩])
  .ret) .skip)))
  (.region false [] [⟨none, .mov (.v 2), none⟩, ⟨none, .bin false .add (.r 0) (.c (.int .i64 1)), none⟩, ⟨some 2, .mov (.r 1), none⟩]))))))
  (.seq (.region false [] [⟨some 1, .mov (.c (.bool true)), none⟩])
  .ret))),
  [.v 1]⟩
def ir_impl_allWithin : IFun := ⟨[0, 1, 2, 6, 8, 9, 10, 11, 12, 19],
  (.seq (.region false [] [⟨some 3, .mov (.c (.bool false)), none⟩])
  (.seq (.seq (.region false [] [⟨some 5, .mov (.v 0), none⟩, ⟨some 6, .len false (.v 5), none⟩, ⟨some 7, .mov (.c (.int .i64 0)), none⟩])
  (.block 0 (.loop [false, true, true, false, false, true, true, true, false, false] (.seq (.region false [] [⟨some 8, .bin false .lss (.v 7) (.v 6), none⟩])
  (.seq (.cond (.v 8) .skip (.exit 0))
  (.seq (.block 1 (.seq (.region false [] [⟨none, .iaddr 1 (.v 5) (.v 7), none⟩, ⟨none, .load false 1 (.r 0), none⟩, ⟨some 4, .mov (.r 1), none⟩])
  (.seq (.region false [] [⟨none, .mov (.v 4), none⟩, ⟨none, .mov (.v 1), none⟩, ⟨none, .mov (.v 2), none⟩, ⟨none, .call false f_impl_within [(.r 0), (.r 1), (.r 2)], none⟩, ⟨some 9, .not (.r 3), none⟩])
  (.cond (.v 9) (.seq (.region false [] [⟨some 3, .mov (.c (.bool false)), none⟩])
  .ret) .skip))))
  (.region false [] [⟨none, .bin false .add (.v 7) (.c (.int .i64 1)), none⟩, ⟨some 7, .mov (.r 0), none⟩])))))))
  (.seq (.region false [] [⟨some 3, .mov (.c (.bool true)), none⟩])
  .ret))),
  [.v 3]⟩
def ir_impl_arePlaces : IFun := ⟨[0, 1, 2, 4],
  (.seq (.region false [] [⟨some 2, .box t_impl_Net 2 (.v 0), none⟩, ⟨some 3, .mov (.c (.bool false)), none⟩])
  (.seq (.region false [] [⟨none, .mov (.v 1), none⟩, ⟨none, .call false f_impl_increasing [(.r 0)], none⟩, ⟨none, .mov (.r 1), none⟩, ⟨none, .mov (.v 1), some (2, true)⟩, ⟨none, .faddr 0 (.v 2), some (2, true)⟩, ⟨none, .load false 1 (.r 4), some (2, true)⟩, ⟨none, .bin false .sub (.r 5) (.c (.int .i64 1)), some (2, true)⟩, ⟨none, .call false f_impl_allWithin [(.r 3), (.c (.int .i64 0)), (.r 6)], some (2, true)⟩, ⟨none, .pick (.r 2) (.r 7) (.c (.bool false)), none⟩, ⟨some 3, .mov (.r 8), none⟩])
  .ret)),
  [.v 3]⟩
def ir_impl_GoodNet_1 : IFun := ⟨[0, 1, 2, 3],
  (.seq (.region false [] [⟨some 2, .box t_impl_Trans 3 (.v 0), none⟩, ⟨some 3, .mov (.c (.bool false)), none⟩])
  (.seq (.region false [] [⟨none, .faddr 0 (.v 2), none⟩, ⟨none, .load false 1 (.r 0), none⟩, ⟨none, .len false (.r 1), none⟩, ⟨none, .bin false .eql (.r 2) (.c (.int .i64 0)), none⟩, ⟨none, .mov (.r 3), none⟩, ⟨none, .load true 2 (.v 1), some (4, false)⟩, ⟨none, .faddr 0 (.v 2), some (4, false)⟩, ⟨none, .load false 1 (.r 6), some (4, false)⟩, ⟨none, .call false f_impl_arePlaces [(.r 5), (.r 7)], some (4, false)⟩, ⟨none, .not (.r 8), some (4, false)⟩, ⟨none, .pick (.r 4) (.c (.bool true)) (.r 9), none⟩, ⟨none, .mov (.r 10), none⟩, ⟨none, .load true 2 (.v 1), some (11, false)⟩, ⟨none, .faddr 1 (.v 2), some (11, false)⟩, ⟨none, .load false 1 (.r 13), some (11, false)⟩, ⟨none, .call false f_impl_arePlaces [(.r 12), (.r 14)], some (11, false)⟩, ⟨none, .not (.r 15), some (11, false)⟩, ⟨none, .pick (.r 11) (.c (.bool true)) (.r 16), none⟩, ⟨none, .mov (.r 17), none⟩, ⟨none, .load true 2 (.v 1), some (18, false)⟩, ⟨none, .faddr 2 (.v 2), some (18, false)⟩, ⟨none, .load false 1 (.r 20), some (18, false)⟩, ⟨none, .call false f_impl_arePlaces [(.r 19), (.r 21)], some (18, false)⟩, ⟨none, .not (.r 22), some (18, false)⟩, ⟨none, .pick (.r 18) (.c (.bool true)) (.r 23), none⟩, ⟨some 3, .mov (.r 24), none⟩])
  .ret)),
  [.v 3]⟩
def ir_slices_IndexFunc_sl_impl_Trans_impl_Trans : IFun := ⟨[0, 1, 4, 5, 7, 8, 9, 16],
  (.seq (.region false [] [⟨some 2, .mov (.c (.int .i64 0)), none⟩])
  (.seq (.seq (.region false [] [⟨none, .mov (.v 0), none⟩, ⟨some 4, .len false (.r 0), none⟩, ⟨some 5, .mov (.c (.int .i64 0)), none⟩])
  (.block 0 (.loop [true, true, false, false, true, true, false, false] (.seq (.region false [] [⟨some 6, .bin false .lss (.v 5) (.v 4), none⟩])
  (.seq (.cond (.v 6) .skip (.exit 0))
  (.seq (.block 1 (.seq (.region false [] [⟨none, .mov (.v 5), none⟩, ⟨some 3, .mov (.r 0), none⟩])
  (.seq (.region false [] [⟨none, .mov (.v 1), none⟩, ⟨none, .mov (.v 0), none⟩, ⟨none, .mov (.v 3), none⟩, ⟨none, .iaddr 3 (.r 1) (.r 2), none⟩, ⟨none, .load true 3 (.r 3), none⟩, ⟨some 7, .callv false (.r 0) [(.r 4)], none⟩])
  (.cond (.v 7) (.seq (.region false [] [⟨none, .mov (.v 3), none⟩, ⟨some 2, .mov (.r 0), none⟩])
  .ret) .skip))))
  (.region false [] [⟨none, .bin false .add (.v 5) (.c (.int .i64 1)), none⟩, ⟨some 5, .mov (.r 0), none⟩])))))))
  (.seq (.region false [] [⟨some 2, .mov (.c (.int .i64 (-1))), none⟩])
  .ret))),
  [.v 2]⟩
def ir_slices_ContainsFunc_sl_impl_Trans_impl_Trans : IFun := ⟨[0, 1, 4],
  (.seq (.region false [] [⟨some 2, .mov (.c (.bool false)), none⟩])
  (.seq (.region false [] [⟨none, .mov (.v 0), none⟩, ⟨none, .mov (.v 1), none⟩, ⟨none, .call false f_slices_IndexFunc_sl_impl_Trans_impl_Trans [(.r 0), (.r 1)], none⟩, ⟨none, .bin false .geq (.r 2) (.c (.int .i64 0)), none⟩, ⟨some 2, .mov (.r 3), none⟩])
  .ret)),
  [.v 2]⟩
def ir_impl_GoodNet : IFun := ⟨[0, 1, 2],
  (.seq (.region false [] [⟨some 1, .box t_impl_Net 2 (.v 0), none⟩, ⟨some 2, .mov (.c (.bool false)), none⟩])
  (.seq (.region false [] [⟨none, .faddr 0 (.v 1), none⟩, ⟨none, .load false 1 (.r 0), none⟩, ⟨none, .call false f_impl_within [(.r 1), (.c (.int .i64 1)), (.c (.int .i64 16))], none⟩, ⟨none, .mov (.r 2), none⟩, ⟨none, .faddr 1 (.v 1), some (3, true)⟩, ⟨none, .load false 1 (.r 4), some (3, true)⟩, ⟨none, .len false (.r 5), some (3, true)⟩, ⟨none, .bin false .leq (.r 6) (.c (.int .i64 24)), some (3, true)⟩, ⟨none, .pick (.r 3) (.r 7) (.c (.bool false)), none⟩, ⟨none, .mov (.r 8), none⟩, ⟨none, .faddr 1 (.v 1), some (9, true)⟩, ⟨none, .load false 1 (.r 10), some (9, true)⟩, ⟨none, .mkfn f_impl_GoodNet_1 [(.v 1)], some (9, true)⟩, ⟨none, .call false f_slices_ContainsFunc_sl_impl_Trans_impl_Trans [(.r 11), (.r 12)], some (9, true)⟩, ⟨none, .not (.r 13), some (9, true)⟩, ⟨none, .pick (.r 9) (.r 14) (.c (.bool false)), none⟩, ⟨some 2, .mov (.r 15), none⟩])
  .ret)),
  [.v 2]⟩
def ir_impl_hasResets_1 : IFun := ⟨[0, 1, 2],
  (.seq (.region false [] [⟨some 1, .box t_impl_Trans 3 (.v 0), none⟩, ⟨some 2, .mov (.c (.bool false)), none⟩])
  (.seq (.region false [] [⟨none, .faddr 2 (.v 1), none⟩, ⟨none, .load false 1 (.r 0), none⟩, ⟨none, .len false (.r 1), none⟩, ⟨none, .bin false .gtr (.r 2) (.c (.int .i64 0)), none⟩, ⟨some 2, .mov (.r 3), none⟩])
  .ret)),
  [.v 2]⟩
def ir_impl_hasResets : IFun := ⟨[0, 1, 2],
  (.seq (.region false [] [⟨some 1, .box t_impl_Net 2 (.v 0), none⟩, ⟨some 2, .mov (.c (.bool false)), none⟩])
  (.seq (.region false [] [⟨none, .faddr 1 (.v 1), none⟩, ⟨none, .load false 1 (.r 0), none⟩, ⟨none, .call false f_slices_ContainsFunc_sl_impl_Trans_impl_Trans [(.r 1), (.c (.clo f_impl_hasResets_1 []))], none⟩, ⟨some 2, .mov (.r 2), none⟩])
  .ret)),
  [.v 2]⟩
def ir_impl_isPlain : IFun := ⟨[0, 1, 2],
  (.seq (.region false [] [⟨some 1, .box t_impl_Net 2 (.v 0), none⟩, ⟨some 2, .mov (.c (.bool false)), none⟩])
  (.seq (.region false [] [⟨none, .load true 2 (.v 1), none⟩, ⟨none, .call false f_impl_GoodNet [(.r 0)], none⟩, ⟨none, .mov (.r 1), none⟩, ⟨none, .load true 2 (.v 1), some (2, true)⟩, ⟨none, .call false f_impl_hasResets [(.r 3)], some (2, true)⟩, ⟨none, .not (.r 4), some (2, true)⟩, ⟨none, .pick (.r 2) (.r 5) (.c (.bool false)), none⟩, ⟨some 2, .mov (.r 6), none⟩])
  .ret)),
  [.v 2]⟩
def ir_impl_isSmall : IFun := ⟨[0, 1, 2],
  (.seq (.region false [] [⟨some 1, .box t_impl_Net 2 (.v 0), none⟩, ⟨some 2, .mov (.c (.bool false)), none⟩])
  (.seq (.region false [] [⟨none, .load true 2 (.v 1), none⟩, ⟨none, .call false f_impl_isPlain [(.r 0)], none⟩, ⟨none, .mov (.r 1), none⟩, ⟨none, .faddr 0 (.v 1), some (2, true)⟩, ⟨none, .load false 1 (.r 3), some (2, true)⟩, ⟨none, .bin false .leq (.r 4) (.c (.int .i64 10)), some (2, true)⟩, ⟨none, .pick (.r 2) (.r 5) (.c (.bool false)), none⟩, ⟨some 2, .mov (.r 6), none⟩])
  .ret)),
  [.v 2]⟩
def ir_impl_GoodMark : IFun := ⟨[0, 1, 4],
  (.seq (.region false [] [⟨some 2, .mov (.c (.bool false)), none⟩])
  (.seq (.region false [] [⟨none, .mov (.v 0), none⟩, ⟨none, .call false f_impl_within [(.r 0), (.c (.int .i64 1)), (.c (.int .i64 16))], none⟩, ⟨none, .mov (.r 1), none⟩, ⟨none, .mov (.v 1), some (2, true)⟩, ⟨none, .len false (.r 3), some (2, true)⟩, ⟨none, .mov (.v 0), some (2, true)⟩, ⟨none, .bin false .eql (.r 4) (.r 5), some (2, true)⟩, ⟨none, .pick (.r 2) (.r 6) (.c (.bool false)), none⟩, ⟨none, .mov (.r 7), none⟩, ⟨none, .mov (.v 1), some (8, true)⟩, ⟨none, .call false f_impl_allWithin [(.r 9), (.c (.int .i64 0)), (.c (.int .i64 50))], some (8, true)⟩, ⟨none, .pick (.r 8) (.r 10) (.c (.bool false)), none⟩, ⟨some 2, .mov (.r 11), none⟩])
  .ret)),
  [.v 2]⟩
def ir_impl_maskOf : IFun := ⟨[0, 2, 3, 5, 6, 7, 8, 9],
  (.seq (.region false [] [⟨some 1, .mov (.c (.int .i64 0)), none⟩])
  (.seq (.region false [] [⟨some 2, .mov (.c (.int .i64 0)), none⟩])
  (.seq (.seq (.region false [] [⟨some 4, .mov (.v 0), none⟩, ⟨some 5, .len false (.v 4), none⟩, ⟨some 6, .mov (.c (.int .i64 0)), none⟩])
  (.block 0 (.loop [false, false, true, false, true, true, true, false] (.seq (.region false [] [⟨some 7, .bin false .lss (.v 6) (.v 5), none⟩])
  (.seq (.cond (.v 7) .skip (.exit 0))
  (.seq (.block 1 (.seq (.region false [] [⟨none, .iaddr 1 (.v 4) (.v 6), none⟩, ⟨none, .load false 1 (.r 0), none⟩, ⟨some 3, .mov (.r 1), none⟩])
  (.region false [] [⟨none, .mov (.v 2), none⟩, ⟨none, .mov (.v 3), none⟩, ⟨none, .bin false .shl (.c (.int .i64 1)) (.r 1), none⟩, ⟨none, .bin false .or (.r 0) (.r 2), none⟩, ⟨some 2, .mov (.r 3), none⟩])))
  (.region false [] [⟨none, .bin false .add (.v 6) (.c (.int .i64 1)), none⟩, ⟨some 6, .mov (.r 0), none⟩])))))))
  (.seq (.region false [] [⟨none, .mov (.v 2), none⟩, ⟨some 1, .mov (.r 0), none⟩])
  .ret)))),
  [.v 1]⟩
def ir_impl_bigTrap : IFun := ⟨[0, 1, 2, 3, 6, 7, 9, 10, 11, 12, 14, 15, 16, 17, 26, 38],
  (.seq (.region false [] [⟨some 3, .box t_impl_Net 2 (.v 0), none⟩, ⟨some 4, .mov (.c (.int .i64 0)), none⟩])
  (.seq (.seq (.region false [] [⟨some 5, .mov (.c (.bool true)), none⟩])
  (.block 0 (.loop [false, true, true, true, false, true, false, false, false, false, false, false, false, false, false, false] (.seq (.seq (.region false [] [⟨some 9, .mov (.v 5), none⟩])
  (.cond (.v 9) .skip (.exit 0)))
  (.block 1 (.seq (.region false [] [⟨some 5, .mov (.c (.bool false)), none⟩])
  (.seq (.region false [] [⟨none, .faddr 1 (.v 3), none⟩, ⟨some 10, .load false 1 (.r 0), none⟩, ⟨some 11, .len false (.v 10), none⟩, ⟨some 12, .mov (.c (.int .i64 0)), none⟩])
  (.block 2 (.loop [false, true, true, true, false, true, false, false, false, false, true, true, true, false, false, false] (.seq (.region false [] [⟨some 13, .bin false .lss (.v 12) (.v 11), none⟩])
  (.seq (.cond (.v 13) .skip (.exit 2))
  (.seq (.block 3 (.seq (.region false [] [⟨none, .iaddr 3 (.v 10) (.v 12), none⟩, ⟨none, .load true 3 (.r 0), none⟩, ⟨some 6, .alloc t_impl_Trans [(.nil true 1), (.nil true 1), (.nil true 1)], none⟩, ⟨none, .store 3 (.v 6) (.r 1), none⟩])
  (.seq (.region true [(4, 3)] [⟨none, .faddr 0 (.v 6), none⟩, ⟨none, .load false 1 (.r 0), none⟩, ⟨none, .faddr 1 (.v 6), none⟩, ⟨none, .load false 1 (.r 2), none⟩, ⟨none, .call false f_impl_maskOf [(.r 1)], none⟩, ⟨none, .call false f_impl_maskOf [(.r 3)], none⟩, ⟨some 7, .mov (.r 4), none⟩, ⟨some 8, .mov (.r 5), none⟩])
  (.seq (.seq (.region false [] [⟨some 14, .mov (.v 2), none⟩])
  (.cond (.v 14) (.region false [] [⟨none, .mov (.v 8), none⟩, ⟨none, .mov (.v 7), none⟩, ⟨some 7, .mov (.r 0), none⟩, ⟨some 8, .mov (.r 1), none⟩]) .skip))
  (.seq (.region false [] [⟨none, .mov (.v 7), none⟩, ⟨none, .mov (.v 1), none⟩, ⟨none, .bin false .and (.r 0) (.r 1), none⟩, ⟨none, .bin false .neq (.r 2) (.c (.int .i64 0)), none⟩, ⟨none, .mov (.r 3), none⟩, ⟨none, .mov (.v 8), some (4, true)⟩, ⟨none, .mov (.v 1), some (4, true)⟩, ⟨none, .bin false .and (.r 5) (.r 6), some (4, true)⟩, ⟨none, .bin false .eql (.r 7) (.c (.int .i64 0)), some (4, true)⟩, ⟨some 15, .pick (.r 4) (.r 8) (.c (.bool false)), none⟩])
  (.cond (.v 15) (.seq (.region false [] [⟨none, .mov (.v 1), none⟩, ⟨none, .mov (.v 7), none⟩, ⟨none, .bin false .andNot (.r 0) (.r 1), none⟩, ⟨some 1, .mov (.r 2), none⟩])
  (.region false [] [⟨some 5, .mov (.c (.bool true)), none⟩])) .skip))))))
  (.region false [] [⟨none, .bin false .add (.v 12) (.c (.int .i64 1)), none⟩, ⟨some 12, .mov (.r 0), none⟩])))))))))))))
  (.seq (.region false [] [⟨none, .mov (.v 1), none⟩, ⟨some 4, .mov (.r 0), none⟩])
  .ret))),
  [.v 4]⟩
def ir_impl_isSiphon : IFun := ⟨[0, 1, 2, 4],
  (.seq (.region false [] [⟨some 2, .box t_impl_Net 2 (.v 0), none⟩, ⟨some 3, .mov (.c (.bool false)), none⟩])
  (.seq (.region false [] [⟨none, .load true 2 (.v 2), none⟩, ⟨none, .mov (.v 1), none⟩, ⟨none, .call false f_impl_bigTrap [(.r 0), (.r 1), (.c (.bool true))], none⟩, ⟨none, .mov (.v 1), none⟩, ⟨none, .bin false .eql (.r 2) (.r 3), none⟩, ⟨some 3, .mov (.r 4), none⟩])
  .ret)),
  [.v 3]⟩
def ir_impl_IsGuarded_1 : IFun := ⟨[0, 1, 3],
  (.seq (.region false [] [⟨some 2, .mov (.c (.bool false)), none⟩])
  (.seq (.region false [] [⟨none, .load true 2 (.v 1), none⟩, ⟨none, .mov (.v 0), none⟩, ⟨none, .call false f_impl_isSiphon [(.r 0), (.r 1)], none⟩, ⟨some 2, .mov (.r 2), none⟩])
  .ret)),
  [.v 2]⟩
def ir_impl_smallSets_1 : IFun := ⟨[0, 1, 3],
  (.seq (.region false [] [⟨some 2, .mov (.c (.bool false)), none⟩])
  (.seq (.region false [] [⟨none, .mov (.v 0), none⟩, ⟨none, .load false 1 (.v 1), none⟩, ⟨none, .bin false .andNot (.r 0) (.r 1), none⟩, ⟨none, .bin false .eql (.r 2) (.c (.int .i64 0)), none⟩, ⟨some 2, .mov (.r 3), none⟩])
  .ret)),
  [.v 2]⟩
def ir_slices_IndexFunc_sl_int_int : IFun := ⟨[0, 1, 4, 5, 7, 8, 9, 16],
  (.seq (.region false [] [⟨some 2, .mov (.c (.int .i64 0)), none⟩])
  (.seq (.seq (.region false [] [⟨none, .mov (.v 0), none⟩, ⟨some 4, .len false (.r 0), none⟩, ⟨some 5, .mov (.c (.int .i64 0)), none⟩])
  (.block 0 (.loop [true, true, false, false, true, true, false, false] (.seq (.region false [] [⟨some 6, .bin false .lss (.v 5) (.v 4), none⟩])
  (.seq (.cond (.v 6) .skip (.exit 0))
  (.seq (.block 1 (.seq (.region false [] [⟨none, .mov (.v 5), none⟩, ⟨some 3, .mov (.r 0), none⟩])
  (.seq (.region false [] [⟨none, .mov (.v 1), none⟩, ⟨none, .mov (.v 0), none⟩, ⟨none, .mov (.v 3), none⟩, ⟨none, .iaddr 1 (.r 1) (.r 2), none⟩, ⟨none, .load false 1 (.r 3), none⟩, ⟨some 7, .callv false (.r 0) [(.r 4)], none⟩])
  (.cond (.v 7) (.seq (.region false [] [⟨none, .mov (.v 3), none⟩, ⟨some 2, .mov (.r 0), none⟩])
  .ret) .skip))))
  (.region false [] [⟨none, .bin false .add (.v 5) (.c (.int .i64 1)), none⟩, ⟨some 5, .mov (.r 0), none⟩])))))))
  (.seq (.region false [] [⟨some 2, .mov (.c (.int .i64 (-1))), none⟩])
  .ret))),
  [.v 2]⟩
def ir_slices_ContainsFunc_sl_int_int : IFun := ⟨[0, 1, 4],
  (.seq (.region false [] [⟨some 2, .mov (.c (.bool false)), none⟩])
  (.seq (.region false [] [⟨none, .mov (.v 0), none⟩, ⟨none, .mov (.v 1), none⟩, ⟨none, .call false f_slices_IndexFunc_sl_int_int [(.r 0), (.r 1)], none⟩, ⟨none, .bin false .geq (.r 2) (.c (.int .i64 0)), none⟩, ⟨some 2, .mov (.r 3), none⟩])
  .ret)),
  [.v 2]⟩
def ir_impl_smallSets : IFun := ⟨[0, 1, 2, 4, 5, 6, 11, 22, 27],
  (.seq (.region false [] [⟨some 2, .box t_impl_Net 2 (.v 0), none⟩, ⟨some 3, .nilrow t_int true 1, none⟩])
  (.seq (.region false [] [⟨some 4, .nilrow t_int true 1, none⟩])
  (.seq (.seq (.region false [] [⟨some 5, .alloc t_int [(.int .i64 0)], none⟩, ⟨none, .store 1 (.v 5) (.c (.int .i64 1)), none⟩])
  (.block 0 (.loop [false, true, true, false, true, true, false, false, false] (.seq (.seq (.region true [] [⟨none, .load false 1 (.v 5), none⟩, ⟨none, .faddr 0 (.v 2), none⟩, ⟨none, .load false 1 (.r 1), none⟩, ⟨none, .bin false .shl (.c (.int .i64 1)) (.r 2), none⟩, ⟨some 6, .bin false .lss (.r 0) (.r 3), none⟩])
  (.cond (.v 6) .skip (.exit 0)))
  (.seq (.block 1 (.seq (.region false [] [⟨none, .mov (.v 1), none⟩, ⟨none, .load false 1 (.v 5), none⟩, ⟨none, .callv false (.r 0) [(.r 1)], none⟩, ⟨none, .mov (.r 2), none⟩, ⟨none, .mov (.v 4), some (3, true)⟩, ⟨none, .mkfn f_impl_smallSets_1 [(.v 5)], some (3, true)⟩, ⟨none, .call false f_slices_ContainsFunc_sl_int_int [(.r 4), (.r 5)], some (3, true)⟩, ⟨none, .not (.r 6), some (3, true)⟩, ⟨some 7, .pick (.r 3) (.r 7) (.c (.bool false)), none⟩])
  (.cond (.v 7) (.region false [] [⟨none, .mov (.v 4), none⟩, ⟨none, .load false 1 (.v 5), none⟩, ⟨none, .bslice false t_int true 1 [(.r 1)], none⟩, ⟨none, .append t_int true 1 (.r 0) (.r 2), none⟩, ⟨some 4, .mov (.r 3), none⟩]) .skip)))
  (.seq (.seq (.region false [] [⟨some 8, .load false 1 (.v 5), none⟩])
  (.region false [] [⟨some 5, .alloc t_int [(.int .i64 0)], none⟩, ⟨none, .store 1 (.v 5) (.v 8), none⟩]))
  (.region false [] [⟨none, .load false 1 (.v 5), none⟩, ⟨none, .bin false .add (.r 0) (.c (.int .i64 1)), none⟩, ⟨none, .store 1 (.v 5) (.r 1), none⟩])))))))
  (.seq (.region false [] [⟨none, .mov (.v 4), none⟩, ⟨some 3, .mov (.r 0), none⟩])
  .ret)))),
  [.v 3]⟩
def ir_impl_setOf : IFun := ⟨[0, 2, 3, 4, 8, 15],
  (.seq (.region false [] [⟨some 1, .nilrow t_int true 1, none⟩])
  (.seq (.region false [] [⟨some 2, .nilrow t_int true 1, none⟩])
  (.seq (.seq (.region false [] [⟨some 3, .mov (.c (.int .i64 0)), none⟩])
  (.block 0 (.loop [true, false, true, true, false, false] (.seq (.seq (.region false [] [⟨none, .mov (.v 0), none⟩, ⟨none, .mov (.v 3), none⟩, ⟨none, .bin false .shr (.r 0) (.r 1), none⟩, ⟨some 4, .bin false .neq (.r 2) (.c (.int .i64 0)), none⟩])
  (.cond (.v 4) .skip (.exit 0)))
  (.seq (.block 1 (.seq (.region false [] [⟨none, .mov (.v 0), none⟩, ⟨none, .mov (.v 3), none⟩, ⟨none, .bin false .shr (.r 0) (.r 1), none⟩, ⟨none, .bin false .and (.r 2) (.c (.int .i64 1)), none⟩, ⟨some 5, .bin false .eql (.r 3) (.c (.int .i64 1)), none⟩])
  (.cond (.v 5) (.region false [] [⟨none, .mov (.v 2), none⟩, ⟨none, .mov (.v 3), none⟩, ⟨none, .bslice false t_int true 1 [(.r 1)], none⟩, ⟨none, .append t_int true 1 (.r 0) (.r 2), none⟩, ⟨some 2, .mov (.r 3), none⟩]) .skip)))
  (.region false [] [⟨none, .mov (.v 3), none⟩, ⟨none, .bin false .add (.r 0) (.c (.int .i64 1)), none⟩, ⟨some 3, .mov (.r 1), none⟩]))))))
  (.seq (.region false [] [⟨none, .mov (.v 2), none⟩, ⟨some 1, .mov (.r 0), none⟩])
  .ret)))),
  [.v 1]⟩
def ir_impl_IsGuarded_2 : IFun := ⟨[0, 1, 3],
  (.seq (.region false [] [⟨some 2, .mov (.c (.bool false)), none⟩])
  (.seq (.region false [] [⟨none, .load false 1 (.v 1), none⟩, ⟨none, .mov (.v 0), none⟩, ⟨none, .iaddr 1 (.r 0) (.r 1), none⟩, ⟨none, .load false 1 (.r 2), none⟩, ⟨none, .bin false .gtr (.r 3) (.c (.int .i64 0)), none⟩, ⟨some 2, .mov (.r 4), none⟩])
  .ret)),
  [.v 2]⟩
def ir_impl_IsGuarded : IFun := ⟨[0, 1, 2, 3, 4, 5, 7, 17, 20, 21, 22, 23, 32],
  (.seq (.region false [] [⟨some 2, .box t_impl_Net 2 (.v 0), none⟩, ⟨some 3, .box t_sl_int 1 (.v 1), none⟩, ⟨some 4, .mov (.c (.bool false)), none⟩, ⟨some 5, .mov (.c (.bool false)), none⟩])
  (.seq (.seq (.region false [] [⟨none, .load true 2 (.v 2), none⟩, ⟨none, .call false f_impl_isSmall [(.r 0)], none⟩, ⟨none, .not (.r 1), none⟩, ⟨none, .mov (.r 2), none⟩, ⟨none, .faddr 0 (.v 2), some (3, false)⟩, ⟨none, .load false 1 (.r 4), some (3, false)⟩, ⟨none, .load false 1 (.v 3), some (3, false)⟩, ⟨none, .call false f_impl_GoodMark [(.r 5), (.r 6)], some (3, false)⟩, ⟨none, .not (.r 7), some (3, false)⟩, ⟨some 7, .pick (.r 3) (.c (.bool true)) (.r 8), none⟩])
  (.cond (.v 7) (.seq (.region false [] [⟨some 4, .mov (.c (.bool false)), none⟩, ⟨some 5, .mov (.c (.bool false)), none⟩])
  .ret) .skip))
  (.seq (.seq (.region false [] [⟨none, .load true 2 (.v 2), none⟩, ⟨none, .mkfn f_impl_IsGuarded_1 [(.v 2)], none⟩, ⟨some 8, .call false f_impl_smallSets [(.r 0), (.r 1)], none⟩, ⟨some 9, .len false (.v 8), none⟩, ⟨some 10, .mov (.c (.int .i64 0)), none⟩])
  (.block 0 (.loop [false, false, true, true, false, false, false, false, true, true, true, false, false] (.seq (.region false [] [⟨some 11, .bin false .lss (.v 10) (.v 9), none⟩])
  (.seq (.cond (.v 11) .skip (.exit 0))
  (.seq (.block 1 (.seq (.region false [] [⟨none, .iaddr 1 (.v 8) (.v 10), none⟩, ⟨none, .load false 1 (.r 0), none⟩, ⟨some 6, .mov (.r 1), none⟩])
  (.seq (.region false [] [⟨none, .load true 2 (.v 2), none⟩, ⟨none, .mov (.v 6), none⟩, ⟨none, .call false f_impl_bigTrap [(.r 0), (.r 1), (.c (.bool false))], none⟩, ⟨none, .call false f_impl_setOf [(.r 2)], none⟩, ⟨none, .mkfn f_impl_IsGuarded_2 [(.v 3)], none⟩, ⟨none, .call false f_slices_ContainsFunc_sl_int_int [(.r 3), (.r 4)], none⟩, ⟨some 12, .not (.r 5), none⟩])
  (.cond (.v 12) (.seq (.region false [] [⟨some 4, .mov (.c (.bool false)), none⟩, ⟨some 5, .mov (.c (.bool true)), none⟩])
  .ret) .skip))))
  (.region false [] [⟨none, .bin false .add (.v 10) (.c (.int .i64 1)), none⟩, ⟨some 10, .mov (.r 0), none⟩])))))))
  (.seq (.region false [] [⟨some 4, .mov (.c (.bool true)), none⟩, ⟨some 5, .mov (.c (.bool true)), none⟩])
  .ret)))),
  [.v 4, .v 5]⟩
def ir_spec_l1In : IFun := ⟨[0, 1, 2, 6],
  (.seq (.region false [] [⟨some 3, .mov (.c (.bool false)), none⟩])
  (.seq (.region false [] [⟨none, .mov (.v 0), none⟩, ⟨none, .mov (.v 1), none⟩, ⟨none, .bin false .geq (.r 0) (.r 1), none⟩, ⟨none, .mov (.r 2), none⟩, ⟨none, .mov (.v 0), some (3, true)⟩, ⟨none, .mov (.v 2), some (3, true)⟩, ⟨none, .bin false .leq (.r 4) (.r 5), some (3, true)⟩, ⟨none, .pick (.r 3) (.r 6) (.c (.bool false)), none⟩, ⟨some 3, .mov (.r 7), none⟩])
  .ret)),
  [.v 3]⟩
def ir_spec_l1Places : IFun := ⟨[0, 2],
  (.seq (.region false [] [⟨some 1, .mov (.c (.bool false)), none⟩])
  (.seq (.region false [] [⟨none, .mov (.v 0), none⟩, ⟨none, .call false f_spec_l1In [(.r 0), (.c (.int .i64 1)), (.c (.int .i64 16))], none⟩, ⟨some 1, .mov (.r 1), none⟩])
  .ret)),
  [.v 1]⟩
def ir_spec_l1Rising : IFun := ⟨[0, 1, 2, 6, 7, 8, 9, 10, 11, 12, 33],
  (.seq (.region false [] [⟨some 3, .mov (.c (.bool false)), none⟩])
  (.seq (.seq (.region false [] [⟨some 6, .mov (.v 0), none⟩, ⟨some 7, .len false (.v 6), none⟩, ⟨some 8, .mov (.c (.int .i64 0)), none⟩])
  (.block 0 (.loop [true, true, true, false, false, false, true, true, true, false, false] (.seq (.region false [] [⟨some 9, .bin false .lss (.v 8) (.v 7), none⟩])
  (.seq (.cond (.v 9) .skip (.exit 0))
  (.seq (.block 1 (.seq (.region false [] [⟨none, .mov (.v 8), none⟩, ⟨none, .iaddr 1 (.v 6) (.v 8), none⟩, ⟨none, .load false 1 (.r 1), none⟩, ⟨some 4, .mov (.r 0), none⟩, ⟨some 5, .mov (.r 2), none⟩])
  (.seq (.region false [] [⟨none, .mov (.v 5), none⟩, ⟨none, .mov (.v 1), none⟩, ⟨none, .mov (.v 2), none⟩, ⟨none, .call false f_spec_l1In [(.r 0), (.r 1), (.r 2)], none⟩, ⟨none, .not (.r 3), none⟩, ⟨none, .mov (.r 4), none⟩, ⟨none, .mov (.v 4), some (5, false)⟩, ⟨none, .bin false .gtr (.r 6) (.c (.int .i64 0)), some (5, false)⟩, ⟨none, .mov (.r 7), some (5, false)⟩, ⟨none, .mov (.v 0), some (8, true)⟩, ⟨none, .mov (.v 4), some (8, true)⟩, ⟨none, .bin false .sub (.r 10) (.c (.int .i64 1)), some (8, true)⟩, ⟨none, .iaddr 1 (.r 9) (.r 11), some (8, true)⟩, ⟨none, .load false 1 (.r 12), some (8, true)⟩, ⟨none, .mov (.v 5), some (8, true)⟩, ⟨none, .bin false .geq (.r 13) (.r 14), some (8, true)⟩, ⟨none, .pick (.r 8) (.r 15) (.c (.bool false)), some (5, false)⟩, ⟨some 10, .pick (.r 5) (.c (.bool true)) (.r 16), none⟩])
  (.cond (.v 10) (.seq (.region false [] [⟨some 3, .mov (.c (.bool false)), none⟩])
  .ret) .skip))))
  (.region false [] [⟨none, .bin false .add (.v 8) (.c (.int .i64 1)), none⟩, ⟨some 8, .mov (.r 0), none⟩])))))))
  (.seq (.region false [] [⟨some 3, .mov (.c (.bool true)), none⟩])
  .ret))),
  [.v 3]⟩
def ir_spec_GoodNet : IFun := ⟨[0, 1, 2, 4, 14, 16, 17, 18, 19, 52],
  (.seq (.region false [] [⟨some 1, .box t_impl_Net 2 (.v 0), none⟩, ⟨some 2, .mov (.c (.bool false)), none⟩])
  (.seq (.seq (.region false [] [⟨none, .faddr 0 (.v 1), none⟩, ⟨none, .load false 1 (.r 0), none⟩, ⟨none, .call false f_spec_l1Places [(.r 1)], none⟩, ⟨none, .not (.r 2), none⟩, ⟨none, .mov (.r 3), none⟩, ⟨none, .faddr 1 (.v 1), some (4, false)⟩, ⟨none, .load false 1 (.r 5), some (4, false)⟩, ⟨none, .len false (.r 6), some (4, false)⟩, ⟨none, .bin false .gtr (.r 7) (.c (.int .i64 24)), some (4, false)⟩, ⟨some 4, .pick (.r 4) (.c (.bool true)) (.r 8), none⟩])
  (.cond (.v 4) (.seq (.region false [] [⟨some 2, .mov (.c (.bool false)), none⟩])
  .ret) .skip))
  (.seq (.seq (.region false [] [⟨none, .faddr 1 (.v 1), none⟩, ⟨some 5, .load false 1 (.r 0), none⟩, ⟨some 6, .len false (.v 5), none⟩, ⟨some 7, .mov (.c (.int .i64 0)), none⟩])
  (.block 0 (.loop [false, true, false, false, false, true, true, true, false, false] (.seq (.region false [] [⟨some 8, .bin false .lss (.v 7) (.v 6), none⟩])
  (.seq (.cond (.v 8) .skip (.exit 0))
  (.seq (.block 1 (.seq (.region false [] [⟨none, .iaddr 3 (.v 5) (.v 7), none⟩, ⟨none, .load true 3 (.r 0), none⟩, ⟨some 3, .alloc t_impl_Trans [(.nil true 1), (.nil true 1), (.nil true 1)], none⟩, ⟨none, .store 3 (.v 3) (.r 1), none⟩])
  (.seq (.region false [] [⟨none, .faddr 0 (.v 3), none⟩, ⟨none, .load false 1 (.r 0), none⟩, ⟨none, .len false (.r 1), none⟩, ⟨none, .bin false .eql (.r 2) (.c (.int .i64 0)), none⟩, ⟨none, .mov (.r 3), none⟩, ⟨none, .faddr 0 (.v 3), some (4, false)⟩, ⟨none, .load false 1 (.r 5), some (4, false)⟩, ⟨none, .faddr 0 (.v 1), some (4, false)⟩, ⟨none, .load false 1 (.r 7), some (4, false)⟩, ⟨none, .bin false .sub (.r 8) (.c (.int .i64 1)), some (4, false)⟩, ⟨none, .call false f_spec_l1Rising [(.r 6), (.c (.int .i64 0)), (.r 9)], some (4, false)⟩, ⟨none, .not (.r 10), some (4, false)⟩, ⟨none, .pick (.r 4) (.c (.bool true)) (.r 11), none⟩, ⟨none, .mov (.r 12), none⟩, ⟨none, .faddr 1 (.v 3), some (13, false)⟩, ⟨none, .load false 1 (.r 14), some (13, false)⟩, ⟨none, .faddr 0 (.v 1), some (13, false)⟩, ⟨none, .load false 1 (.r 16), some (13, false)⟩, ⟨none, .bin false .sub (.r 17) (.c (.int .i64 1)), some (13, false)⟩, ⟨none, .call false f_spec_l1Rising [(.r 15), (.c (.int .i64 0)), (.r 18)], some (13, false)⟩, ⟨none, .not (.r 19), some (13, false)⟩, ⟨none, .pick (.r 13) (.c (.bool true)) (.r 20), none⟩, ⟨none, .mov (.r 21), none⟩, ⟨none, .faddr 2 (.v 3), some (22, false)⟩, ⟨none, .load false 1 (.r 23), some (22, false)⟩, ⟨none, .faddr 0 (.v 1), some (22, false)⟩, ⟨none, .load false 1 (.r 25), some (22, false)⟩, ⟨none, .bin false .sub (.r 26) (.c (.int .i64 1)), some (22, false)⟩, ⟨none, .call false f_spec_l1Rising [(.r 24), (.c (.int .i64 0)), (.r 27)], some (22, false)⟩, ⟨none, .not (.r 28), some (22, false)⟩, ⟨some 9, .pick (.r 22) (.c (.bool true)) (.r 29), none⟩])
  (.cond (.v 9) (.seq (.region false [] [⟨some 2, .mov (.c (.bool false)), none⟩])
  .ret) .skip))))
  (.region false [] [⟨none, .bin false .add (.v 7) (.c (.int .i64 1)), none⟩, ⟨some 7, .mov (.r 0), none⟩])))))))
  (.seq (.region false [] [⟨some 2, .mov (.c (.bool true)), none⟩])
  .ret)))),
  [.v 2]⟩
def ir_spec_l2Resets : IFun := ⟨[0, 1, 2, 4, 6, 7, 8, 9, 15],
  (.seq (.region false [] [⟨some 1, .box t_impl_Net 2 (.v 0), none⟩, ⟨some 2, .mov (.c (.bool false)), none⟩])
  (.seq (.seq (.region false [] [⟨none, .faddr 1 (.v 1), none⟩, ⟨some 4, .load false 1 (.r 0), none⟩, ⟨some 5, .len false (.v 4), none⟩, ⟨some 6, .mov (.c (.int .i64 0)), none⟩])
  (.block 0 (.loop [false, false, false, false, true, true, true, false, false] (.seq (.region false [] [⟨some 7, .bin false .lss (.v 6) (.v 5), none⟩])
  (.seq (.cond (.v 7) .skip (.exit 0))
  (.seq (.block 1 (.seq (.region false [] [⟨none, .iaddr 3 (.v 4) (.v 6), none⟩, ⟨none, .load true 3 (.r 0), none⟩, ⟨some 3, .alloc t_impl_Trans [(.nil true 1), (.nil true 1), (.nil true 1)], none⟩, ⟨none, .store 3 (.v 3) (.r 1), none⟩])
  (.seq (.region false [] [⟨none, .faddr 2 (.v 3), none⟩, ⟨none, .load false 1 (.r 0), none⟩, ⟨none, .len false (.r 1), none⟩, ⟨some 8, .bin false .gtr (.r 2) (.c (.int .i64 0)), none⟩])
  (.cond (.v 8) (.seq (.region false [] [⟨some 2, .mov (.c (.bool true)), none⟩])
  .ret) .skip))))
  (.region false [] [⟨none, .bin false .add (.v 6) (.c (.int .i64 1)), none⟩, ⟨some 6, .mov (.r 0), none⟩])))))))
  (.seq (.region false [] [⟨some 2, .mov (.c (.bool false)), none⟩])
  .ret))),
  [.v 2]⟩
def ir_spec_l7Plain : IFun := ⟨[0, 1, 2],
  (.seq (.region false [] [⟨some 1, .box t_impl_Net 2 (.v 0), none⟩, ⟨some 2, .mov (.c (.bool false)), none⟩])
  (.seq (.region false [] [⟨none, .load true 2 (.v 1), none⟩, ⟨none, .call false f_spec_GoodNet [(.r 0)], none⟩, ⟨none, .mov (.r 1), none⟩, ⟨none, .load true 2 (.v 1), some (2, true)⟩, ⟨none, .call false f_spec_l2Resets [(.r 3)], some (2, true)⟩, ⟨none, .not (.r 4), some (2, true)⟩, ⟨none, .pick (.r 2) (.r 5) (.c (.bool false)), none⟩, ⟨some 2, .mov (.r 6), none⟩])
  .ret)),
  [.v 2]⟩
def ir_spec_l1All : IFun := ⟨[0, 1, 2, 6, 8, 9, 10, 11, 12, 19],
  (.seq (.region false [] [⟨some 3, .mov (.c (.bool false)), none⟩])
  (.seq (.seq (.region false [] [⟨some 5, .mov (.v 0), none⟩, ⟨some 6, .len false (.v 5), none⟩, ⟨some 7, .mov (.c (.int .i64 0)), none⟩])
  (.block 0 (.loop [false, true, true, false, false, true, true, true, false, false] (.seq (.region false [] [⟨some 8, .bin false .lss (.v 7) (.v 6), none⟩])
  (.seq (.cond (.v 8) .skip (.exit 0))
  (.seq (.block 1 (.seq (.region false [] [⟨none, .iaddr 1 (.v 5) (.v 7), none⟩, ⟨none, .load false 1 (.r 0), none⟩, ⟨some 4, .mov (.r 1), none⟩])
  (.seq (.region false [] [⟨none, .mov (.v 4), none⟩, ⟨none, .mov (.v 1), none⟩, ⟨none, .mov (.v 2), none⟩, ⟨none, .call false f_spec_l1In [(.r 0), (.r 1), (.r 2)], none⟩, ⟨some 9, .not (.r 3), none⟩])
  (.cond (.v 9) (.seq (.region false [] [⟨some 3, .mov (.c (.bool false)), none⟩])
  .ret) .skip))))
  (.region false [] [⟨none, .bin false .add (.v 7) (.c (.int .i64 1)), none⟩, ⟨some 7, .mov (.r 0), none⟩])))))))
  (.seq (.region false [] [⟨some 3, .mov (.c (.bool true)), none⟩])
  .ret))),
  [.v 3]⟩
def ir_spec_GoodMark : IFun := ⟨[0, 1, 4],
  (.seq (.region false [] [⟨some 2, .mov (.c (.bool false)), none⟩])
  (.seq (.region false [] [⟨none, .mov (.v 0), none⟩, ⟨none, .call false f_spec_l1Places [(.r 0)], none⟩, ⟨none, .mov (.r 1), none⟩, ⟨none, .mov (.v 1), some (2, true)⟩, ⟨none, .len false (.r 3), some (2, true)⟩, ⟨none, .mov (.v 0), some (2, true)⟩, ⟨none, .bin false .eql (.r 4) (.r 5), some (2, true)⟩, ⟨none, .pick (.r 2) (.r 6) (.c (.bool false)), none⟩, ⟨none, .mov (.r 7), none⟩, ⟨none, .mov (.v 1), some (8, true)⟩, ⟨none, .call false f_spec_l1All [(.r 9), (.c (.int .i64 0)), (.c (.int .i64 50))], some (8, true)⟩, ⟨none, .pick (.r 8) (.r 10) (.c (.bool false)), none⟩, ⟨some 2, .mov (.r 11), none⟩])
  .ret)),
  [.v 2]⟩
def ir_spec_l1Set : IFun := ⟨[0, 2, 3, 4, 9, 17],
  (.seq (.region false [] [⟨some 1, .nilrow t_int true 1, none⟩])
  (.seq (.region false [] [⟨some 2, .nilrow t_int true 1, none⟩])
  (.seq (.seq (.region false [] [⟨some 3, .mov (.c (.int .i64 0)), none⟩])
  (.block 0 (.loop [true, false, true, true, false, false] (.seq (.seq (.region false [] [⟨none, .mov (.v 0), none⟩, ⟨none, .mov (.v 3), none⟩, ⟨none, .conv .u64 (.r 1), none⟩, ⟨none, .bin false .shr (.r 0) (.r 2), none⟩, ⟨some 4, .bin false .gtr (.r 3) (.c (.int .i64 0)), none⟩])
  (.cond (.v 4) .skip (.exit 0)))
  (.seq (.block 1 (.seq (.region false [] [⟨none, .mov (.v 0), none⟩, ⟨none, .mov (.v 3), none⟩, ⟨none, .conv .u64 (.r 1), none⟩, ⟨none, .bin false .shr (.r 0) (.r 2), none⟩, ⟨none, .bin false .and (.r 3) (.c (.int .i64 1)), none⟩, ⟨some 5, .bin false .eql (.r 4) (.c (.int .i64 1)), none⟩])
  (.cond (.v 5) (.region false [] [⟨none, .mov (.v 2), none⟩, ⟨none, .mov (.v 3), none⟩, ⟨none, .bslice false t_int true 1 [(.r 1)], none⟩, ⟨none, .append t_int true 1 (.r 0) (.r 2), none⟩, ⟨some 2, .mov (.r 3), none⟩]) .skip)))
  (.region false [] [⟨none, .mov (.v 3), none⟩, ⟨none, .bin false .add (.r 0) (.c (.int .i64 1)), none⟩, ⟨some 3, .mov (.r 1), none⟩]))))))
  (.seq (.region false [] [⟨none, .mov (.v 2), none⟩, ⟨some 1, .mov (.r 0), none⟩])
  .ret)))),
  [.v 1]⟩
def ir_spec_l1Has : IFun := ⟨[0, 1, 4, 6, 7, 8, 9, 10, 15],
  (.seq (.region false [] [⟨some 2, .mov (.c (.bool false)), none⟩])
  (.seq (.seq (.region false [] [⟨some 4, .mov (.v 0), none⟩, ⟨some 5, .len false (.v 4), none⟩, ⟨some 6, .mov (.c (.int .i64 0)), none⟩])
  (.block 0 (.loop [false, true, false, false, true, true, true, false, false] (.seq (.region false [] [⟨some 7, .bin false .lss (.v 6) (.v 5), none⟩])
  (.seq (.cond (.v 7) .skip (.exit 0))
  (.seq (.block 1 (.seq (.region false [] [⟨none, .iaddr 1 (.v 4) (.v 6), none⟩, ⟨none, .load false 1 (.r 0), none⟩, ⟨some 3, .mov (.r 1), none⟩])
  (.seq (.region false [] [⟨none, .mov (.v 3), none⟩, ⟨none, .mov (.v 1), none⟩, ⟨some 8, .bin false .eql (.r 0) (.r 1), none⟩])
  (.cond (.v 8) (.seq (.region false [] [⟨some 2, .mov (.c (.bool true)), none⟩])
  .ret) .skip))))
  (.region false [] [⟨none, .bin false .add (.v 6) (.c (.int .i64 1)), none⟩, ⟨some 6, .mov (.r 0), none⟩])))))))
  (.seq (.region false [] [⟨some 2, .mov (.c (.bool false)), none⟩])
  .ret))),
  [.v 2]⟩
def ir_spec_l2Meet : IFun := ⟨[0, 1, 4, 6, 7, 8, 9, 10, 15],
  (.seq (.region false [] [⟨some 2, .mov (.c (.bool false)), none⟩])
  (.seq (.seq (.region false [] [⟨some 4, .mov (.v 0), none⟩, ⟨some 5, .len false (.v 4), none⟩, ⟨some 6, .mov (.c (.int .i64 0)), none⟩])
  (.block 0 (.loop [false, true, false, false, true, true, true, false, false] (.seq (.region false [] [⟨some 7, .bin false .lss (.v 6) (.v 5), none⟩])
  (.seq (.cond (.v 7) .skip (.exit 0))
  (.seq (.block 1 (.seq (.region false [] [⟨none, .iaddr 1 (.v 4) (.v 6), none⟩, ⟨none, .load false 1 (.r 0), none⟩, ⟨some 3, .mov (.r 1), none⟩])
  (.seq (.region false [] [⟨none, .mov (.v 1), none⟩, ⟨none, .mov (.v 3), none⟩, ⟨some 8, .call false f_spec_l1Has [(.r 0), (.r 1)], none⟩])
  (.cond (.v 8) (.seq (.region false [] [⟨some 2, .mov (.c (.bool true)), none⟩])
  .ret) .skip))))
  (.region false [] [⟨none, .bin false .add (.v 6) (.c (.int .i64 1)), none⟩, ⟨some 6, .mov (.r 0), none⟩])))))))
  (.seq (.region false [] [⟨some 2, .mov (.c (.bool false)), none⟩])
  .ret))),
  [.v 2]⟩
def ir_spec_l8Siphon : IFun := ⟨[0, 1, 2, 4, 6, 8, 9, 10, 11, 24],
  (.seq (.region false [] [⟨some 2, .box t_impl_Net 2 (.v 0), none⟩, ⟨some 3, .mov (.c (.bool false)), none⟩])
  (.seq (.seq (.region false [] [⟨none, .faddr 1 (.v 2), none⟩, ⟨some 5, .load false 1 (.r 0), none⟩, ⟨some 6, .len false (.v 5), none⟩, ⟨some 7, .mov (.c (.int .i64 0)), none⟩])
  (.block 0 (.loop [false, true, false, false, false, true, true, true, false, false] (.seq (.region false [] [⟨some 8, .bin false .lss (.v 7) (.v 6), none⟩])
  (.seq (.cond (.v 8) .skip (.exit 0))
  (.seq (.block 1 (.seq (.region false [] [⟨none, .iaddr 3 (.v 5) (.v 7), none⟩, ⟨none, .load true 3 (.r 0), none⟩, ⟨some 4, .alloc t_impl_Trans [(.nil true 1), (.nil true 1), (.nil true 1)], none⟩, ⟨none, .store 3 (.v 4) (.r 1), none⟩])
  (.seq (.region false [] [⟨none, .faddr 1 (.v 4), none⟩, ⟨none, .load false 1 (.r 0), none⟩, ⟨none, .mov (.v 1), none⟩, ⟨none, .call false f_spec_l2Meet [(.r 1), (.r 2)], none⟩, ⟨none, .mov (.r 3), none⟩, ⟨none, .faddr 0 (.v 4), some (4, true)⟩, ⟨none, .load false 1 (.r 5), some (4, true)⟩, ⟨none, .mov (.v 1), some (4, true)⟩, ⟨none, .call false f_spec_l2Meet [(.r 6), (.r 7)], some (4, true)⟩, ⟨none, .not (.r 8), some (4, true)⟩, ⟨some 9, .pick (.r 4) (.r 9) (.c (.bool false)), none⟩])
  (.cond (.v 9) (.seq (.region false [] [⟨some 3, .mov (.c (.bool false)), none⟩])
  .ret) .skip))))
  (.region false [] [⟨none, .bin false .add (.v 7) (.c (.int .i64 1)), none⟩, ⟨some 7, .mov (.r 0), none⟩])))))))
  (.seq (.region false [] [⟨some 3, .mov (.c (.bool true)), none⟩])
  .ret))),
  [.v 3]⟩
def ir_spec_l8Small : IFun := ⟨[0, 1, 2, 3, 4, 5, 7, 8, 10, 16, 23, 24, 25, 26, 38, 43, 44, 45, 46],
  (.seq (.region false [] [⟨some 1, .box t_impl_Net 2 (.v 0), none⟩, ⟨some 2, .nilrow t_sl_int false 1, none⟩])
  (.seq (.region false [] [⟨some 3, .nilrow t_int true 1, none⟩])
  (.seq (.seq (.region false [] [⟨some 4, .mov (.c (.int .i64 1)), none⟩])
  (.block 0 (.loop [false, true, false, true, true, false, false, false, false, false, false, false, false, false, false, false, false, false, false] (.seq (.seq (.region false [] [⟨none, .mov (.v 4), none⟩, ⟨none, .faddr 0 (.v 1), none⟩, ⟨none, .load false 1 (.r 1), none⟩, ⟨none, .conv .u64 (.r 2), none⟩, ⟨none, .bin false .shl (.c (.int .i64 1)) (.r 3), none⟩, ⟨some 9, .bin false .lss (.r 0) (.r 4), none⟩])
  (.cond (.v 9) .skip (.exit 0)))
  (.seq (.block 1 (.seq (.region true [(2, 0)] [⟨none, .load true 2 (.v 1), none⟩, ⟨none, .mov (.v 4), none⟩, ⟨none, .call false f_spec_l1Set [(.r 1)], none⟩, ⟨none, .call false f_spec_l8Siphon [(.r 0), (.r 2)], none⟩, ⟨some 5, .mov (.r 3), none⟩])
  (.seq (.seq (.region false [] [⟨some 10, .mov (.v 3), none⟩, ⟨some 11, .len false (.v 10), none⟩, ⟨some 12, .mov (.c (.int .i64 0)), none⟩])
  (.block 2 (.loop [false, true, false, true, true, true, false, false, false, false, true, true, true, false, false, false, false, false, false] (.seq (.region false [] [⟨some 13, .bin false .lss (.v 12) (.v 11), none⟩])
  (.seq (.cond (.v 13) .skip (.exit 2))
  (.seq (.block 3 (.seq (.region false [] [⟨none, .iaddr 1 (.v 10) (.v 12), none⟩, ⟨none, .load false 1 (.r 0), none⟩, ⟨some 6, .mov (.r 1), none⟩])
  (.region false [] [⟨none, .mov (.v 5), none⟩, ⟨none, .mov (.r 0), none⟩, ⟨none, .mov (.v 6), some (1, true)⟩, ⟨none, .mov (.v 4), some (1, true)⟩, ⟨none, .bin false .and (.r 2) (.r 3), some (1, true)⟩, ⟨none, .mov (.v 6), some (1, true)⟩, ⟨none, .bin false .neq (.r 4) (.r 5), some (1, true)⟩, ⟨none, .pick (.r 1) (.r 6) (.c (.bool false)), none⟩, ⟨some 5, .mov (.r 7), none⟩])))
  (.region false [] [⟨none, .bin false .add (.v 12) (.c (.int .i64 1)), none⟩, ⟨some 12, .mov (.r 0), none⟩])))))))
  (.seq (.region false [] [⟨some 14, .mov (.v 5), none⟩])
  (.cond (.v 14) (.region false [] [⟨none, .mov (.v 3), none⟩, ⟨none, .mov (.v 4), none⟩, ⟨none, .bslice false t_int true 1 [(.r 1)], none⟩, ⟨none, .append t_int true 1 (.r 0) (.r 2), none⟩, ⟨some 3, .mov (.r 3), none⟩]) .skip)))))
  (.region false [] [⟨none, .mov (.v 4), none⟩, ⟨none, .bin false .add (.r 0) (.c (.int .i64 1)), none⟩, ⟨some 4, .mov (.r 1), none⟩]))))))
  (.seq (.region false [] [⟨some 7, .nilrow t_sl_int false 1, none⟩])
  (.seq (.seq (.region false [] [⟨some 15, .mov (.v 3), none⟩, ⟨some 16, .len false (.v 15), none⟩, ⟨some 17, .mov (.c (.int .i64 0)), none⟩])
  (.block 4 (.loop [false, false, false, false, false, false, false, true, false, false, false, false, false, false, false, true, true, true, false] (.seq (.region false [] [⟨some 18, .bin false .lss (.v 17) (.v 16), none⟩])
  (.seq (.cond (.v 18) .skip (.exit 4))
  (.seq (.block 5 (.seq (.region false [] [⟨none, .iaddr 1 (.v 15) (.v 17), none⟩, ⟨none, .load false 1 (.r 0), none⟩, ⟨some 8, .mov (.r 1), none⟩])
  (.region false [] [⟨none, .mov (.v 7), none⟩, ⟨none, .mov (.v 8), none⟩, ⟨none, .call false f_spec_l1Set [(.r 1)], none⟩, ⟨none, .bslice false t_sl_int false 1 [(.r 2)], none⟩, ⟨none, .append t_sl_int false 1 (.r 0) (.r 3), none⟩, ⟨some 7, .mov (.r 4), none⟩])))
  (.region false [] [⟨none, .bin false .add (.v 17) (.c (.int .i64 1)), none⟩, ⟨some 17, .mov (.r 0), none⟩])))))))
  (.seq (.region false [] [⟨none, .mov (.v 7), none⟩, ⟨some 2, .mov (.r 0), none⟩])
  .ret)))))),
  [.v 2]⟩
def ir_spec_l1Own : IFun := ⟨[0, 2],
  (.seq (.region false [] [⟨some 1, .nilrow t_int true 1, none⟩])
  (.seq (.region false [] [⟨none, .bslice false t_int true 1 [], none⟩, ⟨none, .mov (.v 0), none⟩, ⟨none, .append t_int true 1 (.r 0) (.r 1), none⟩, ⟨some 1, .mov (.r 2), none⟩])
  .ret)),
  [.v 1]⟩
def ir_spec_l8Trap : IFun := ⟨[0, 1, 2, 4, 6, 8, 9, 10, 11, 24],
  (.seq (.region false [] [⟨some 2, .box t_impl_Net 2 (.v 0), none⟩, ⟨some 3, .mov (.c (.bool false)), none⟩])
  (.seq (.seq (.region false [] [⟨none, .faddr 1 (.v 2), none⟩, ⟨some 5, .load false 1 (.r 0), none⟩, ⟨some 6, .len false (.v 5), none⟩, ⟨some 7, .mov (.c (.int .i64 0)), none⟩])
  (.block 0 (.loop [false, true, false, false, false, true, true, true, false, false] (.seq (.region false [] [⟨some 8, .bin false .lss (.v 7) (.v 6), none⟩])
  (.seq (.cond (.v 8) .skip (.exit 0))
  (.seq (.block 1 (.seq (.region false [] [⟨none, .iaddr 3 (.v 5) (.v 7), none⟩, ⟨none, .load true 3 (.r 0), none⟩, ⟨some 4, .alloc t_impl_Trans [(.nil true 1), (.nil true 1), (.nil true 1)], none⟩, ⟨none, .store 3 (.v 4) (.r 1), none⟩])
  (.seq (.region false [] [⟨none, .faddr 0 (.v 4), none⟩, ⟨none, .load false 1 (.r 0), none⟩, ⟨none, .mov (.v 1), none⟩, ⟨none, .call false f_spec_l2Meet [(.r 1), (.r 2)], none⟩, ⟨none, .mov (.r 3), none⟩, ⟨none, .faddr 1 (.v 4), some (4, true)⟩, ⟨none, .load false 1 (.r 5), some (4, true)⟩, ⟨none, .mov (.v 1), some (4, true)⟩, ⟨none, .call false f_spec_l2Meet [(.r 6), (.r 7)], some (4, true)⟩, ⟨none, .not (.r 8), some (4, true)⟩, ⟨some 9, .pick (.r 4) (.r 9) (.c (.bool false)), none⟩])
  (.cond (.v 9) (.seq (.region false [] [⟨some 3, .mov (.c (.bool false)), none⟩])
  .ret) .skip))))
  (.region false [] [⟨none, .bin false .add (.v 7) (.c (.int .i64 1)), none⟩, ⟨some 7, .mov (.r 0), none⟩])))))))
  (.seq (.region false [] [⟨some 3, .mov (.c (.bool true)), none⟩])
  .ret))),
  [.v 3]⟩
def ir_spec_l8Without : IFun := ⟨[0, 1, 4, 5, 7, 8, 9, 10, 11, 17],
  (.seq (.region false [] [⟨some 2, .nilrow t_int true 1, none⟩])
  (.seq (.region false [] [⟨some 3, .nilrow t_int true 1, none⟩])
  (.seq (.seq (.region false [] [⟨some 5, .mov (.v 0), none⟩, ⟨some 6, .len false (.v 5), none⟩, ⟨some 7, .mov (.c (.int .i64 0)), none⟩])
  (.block 0 (.loop [false, true, false, true, false, true, true, true, false, false] (.seq (.region false [] [⟨some 8, .bin false .lss (.v 7) (.v 6), none⟩])
  (.seq (.cond (.v 8) .skip (.exit 0))
  (.seq (.block 1 (.seq (.region false [] [⟨none, .iaddr 1 (.v 5) (.v 7), none⟩, ⟨none, .load false 1 (.r 0), none⟩, ⟨some 4, .mov (.r 1), none⟩])
  (.seq (.region false [] [⟨none, .mov (.v 1), none⟩, ⟨none, .mov (.v 4), none⟩, ⟨none, .call false f_spec_l1Has [(.r 0), (.r 1)], none⟩, ⟨some 9, .not (.r 2), none⟩])
  (.cond (.v 9) (.region false [] [⟨none, .mov (.v 3), none⟩, ⟨none, .mov (.v 4), none⟩, ⟨none, .bslice false t_int true 1 [(.r 1)], none⟩, ⟨none, .append t_int true 1 (.r 0) (.r 2), none⟩, ⟨some 3, .mov (.r 3), none⟩]) .skip))))
  (.region false [] [⟨none, .bin false .add (.v 7) (.c (.int .i64 1)), none⟩, ⟨some 7, .mov (.r 0), none⟩])))))))
  (.seq (.region false [] [⟨none, .mov (.v 3), none⟩, ⟨some 2, .mov (.r 0), none⟩])
  .ret)))),
  [.v 2]⟩
def ir_spec_l8BigTrap : IFun := ⟨[0, 1, 2, 4, 6, 12, 14, 15, 16, 17, 30],
  (.seq (.region false [] [⟨some 2, .box t_impl_Net 2 (.v 0), none⟩, ⟨some 3, .nilrow t_int true 1, none⟩])
  (.seq (.region false [] [⟨none, .mov (.v 1), none⟩, ⟨none, .call false f_spec_l1Own [(.r 0)], none⟩, ⟨some 1, .mov (.r 1), none⟩])
  (.seq (.block 0 (.loop [false, true, true, false, false, false, false, false, false, false, false] (.seq (.seq (.region false [] [⟨none, .load true 2 (.v 2), none⟩, ⟨none, .mov (.v 1), none⟩, ⟨none, .call false f_spec_l8Trap [(.r 0), (.r 1)], none⟩, ⟨some 5, .not (.r 2), none⟩])
  (.cond (.v 5) .skip (.exit 0)))
  (.block 1 (.seq (.region false [] [⟨none, .faddr 1 (.v 2), none⟩, ⟨some 6, .load false 1 (.r 0), none⟩, ⟨some 7, .len false (.v 6), none⟩, ⟨some 8, .mov (.c (.int .i64 0)), none⟩])
  (.block 2 (.loop [false, true, true, false, false, false, true, true, true, false, false] (.seq (.region false [] [⟨some 9, .bin false .lss (.v 8) (.v 7), none⟩])
  (.seq (.cond (.v 9) .skip (.exit 2))
  (.seq (.block 3 (.seq (.region false [] [⟨none, .iaddr 3 (.v 6) (.v 8), none⟩, ⟨none, .load true 3 (.r 0), none⟩, ⟨some 4, .alloc t_impl_Trans [(.nil true 1), (.nil true 1), (.nil true 1)], none⟩, ⟨none, .store 3 (.v 4) (.r 1), none⟩])
  (.seq (.region false [] [⟨none, .faddr 0 (.v 4), none⟩, ⟨none, .load false 1 (.r 0), none⟩, ⟨none, .mov (.v 1), none⟩, ⟨none, .call false f_spec_l2Meet [(.r 1), (.r 2)], none⟩, ⟨none, .mov (.r 3), none⟩, ⟨none, .faddr 1 (.v 4), some (4, true)⟩, ⟨none, .load false 1 (.r 5), some (4, true)⟩, ⟨none, .mov (.v 1), some (4, true)⟩, ⟨none, .call false f_spec_l2Meet [(.r 6), (.r 7)], some (4, true)⟩, ⟨none, .not (.r 8), some (4, true)⟩, ⟨some 10, .pick (.r 4) (.r 9) (.c (.bool false)), none⟩])
  (.cond (.v 10) (.region false [] [⟨none, .mov (.v 1), none⟩, ⟨none, .faddr 0 (.v 4), none⟩, ⟨none, .load false 1 (.r 1), none⟩, ⟨none, .call false f_spec_l8Without [(.r 0), (.r 2)], none⟩, ⟨some 1, .mov (.r 3), none⟩]) .skip))))
  (.region false [] [⟨none, .bin false .add (.v 8) (.c (.int .i64 1)), none⟩, ⟨some 8, .mov (.r 0), none⟩])))))))))))
  (.seq (.region false [] [⟨none, .mov (.v 1), none⟩, ⟨some 3, .mov (.r 0), none⟩])
  .ret)))),
  [.v 3]⟩
def ir_spec_IsGuarded : IFun := ⟨[0, 1, 2, 4, 5, 7, 8, 10, 25, 27, 28, 29, 30, 35, 36, 37, 38, 51],
  (.seq (.region false [] [⟨some 2, .box t_impl_Net 2 (.v 0), none⟩, ⟨some 3, .mov (.c (.bool false)), none⟩, ⟨some 4, .mov (.c (.bool false)), none⟩])
  (.seq (.seq (.region false [] [⟨none, .load true 2 (.v 2), none⟩, ⟨none, .call false f_spec_l7Plain [(.r 0)], none⟩, ⟨none, .not (.r 1), none⟩, ⟨none, .mov (.r 2), none⟩, ⟨none, .faddr 0 (.v 2), some (3, false)⟩, ⟨none, .load false 1 (.r 4), some (3, false)⟩, ⟨none, .bin false .gtr (.r 5) (.c (.int .i64 10)), some (3, false)⟩, ⟨none, .pick (.r 3) (.c (.bool true)) (.r 6), none⟩, ⟨none, .mov (.r 7), none⟩, ⟨none, .faddr 0 (.v 2), some (8, false)⟩, ⟨none, .load false 1 (.r 9), some (8, false)⟩, ⟨none, .mov (.v 1), some (8, false)⟩, ⟨none, .call false f_spec_GoodMark [(.r 10), (.r 11)], some (8, false)⟩, ⟨none, .not (.r 12), some (8, false)⟩, ⟨some 8, .pick (.r 8) (.c (.bool true)) (.r 13), none⟩])
  (.cond (.v 8) (.seq (.region false [] [⟨some 3, .mov (.c (.bool false)), none⟩, ⟨some 4, .mov (.c (.bool false)), none⟩])
  .ret) .skip))
  (.seq (.seq (.region false [] [⟨none, .load true 2 (.v 2), none⟩, ⟨some 9, .call false f_spec_l8Small [(.r 0)], none⟩, ⟨some 10, .len false (.v 9), none⟩, ⟨some 11, .mov (.c (.int .i64 0)), none⟩])
  (.block 0 (.loop [false, true, true, false, false, false, false, false, false, true, true, true, false, false, false, false, false, false] (.seq (.region false [] [⟨some 12, .bin false .lss (.v 11) (.v 10), none⟩])
  (.seq (.cond (.v 12) .skip (.exit 0))
  (.seq (.block 1 (.seq (.region false [] [⟨none, .iaddr 1 (.v 9) (.v 11), none⟩, ⟨none, .load false 1 (.r 0), none⟩, ⟨some 5, .mov (.r 1), none⟩])
  (.seq (.region false [] [⟨some 6, .mov (.c (.bool false)), none⟩])
  (.seq (.seq (.region false [] [⟨none, .load true 2 (.v 2), none⟩, ⟨none, .mov (.v 5), none⟩, ⟨some 13, .call false f_spec_l8BigTrap [(.r 0), (.r 1)], none⟩, ⟨some 14, .len false (.v 13), none⟩, ⟨some 15, .mov (.c (.int .i64 0)), none⟩])
  (.block 2 (.loop [false, true, true, false, false, false, true, false, false, true, true, true, false, true, true, true, false, false] (.seq (.region false [] [⟨some 16, .bin false .lss (.v 15) (.v 14), none⟩])
  (.seq (.cond (.v 16) .skip (.exit 2))
  (.seq (.block 3 (.seq (.region false [] [⟨none, .iaddr 1 (.v 13) (.v 15), none⟩, ⟨none, .load false 1 (.r 0), none⟩, ⟨some 7, .mov (.r 1), none⟩])
  (.region false [] [⟨none, .mov (.v 6), none⟩, ⟨none, .mov (.r 0), none⟩, ⟨none, .mov (.v 1), some (1, false)⟩, ⟨none, .mov (.v 7), some (1, false)⟩, ⟨none, .iaddr 1 (.r 2) (.r 3), some (1, false)⟩, ⟨none, .load false 1 (.r 4), some (1, false)⟩, ⟨none, .bin false .gtr (.r 5) (.c (.int .i64 0)), some (1, false)⟩, ⟨none, .pick (.r 1) (.c (.bool true)) (.r 6), none⟩, ⟨some 6, .mov (.r 7), none⟩])))
  (.region false [] [⟨none, .bin false .add (.v 15) (.c (.int .i64 1)), none⟩, ⟨some 15, .mov (.r 0), none⟩])))))))
  (.seq (.region false [] [⟨none, .mov (.v 6), none⟩, ⟨some 17, .not (.r 0), none⟩])
  (.cond (.v 17) (.seq (.region false [] [⟨some 3, .mov (.c (.bool false)), none⟩, ⟨some 4, .mov (.c (.bool true)), none⟩])
  .ret) .skip))))))
  (.region false [] [⟨none, .bin false .add (.v 11) (.c (.int .i64 1)), none⟩, ⟨some 11, .mov (.r 0), none⟩])))))))
  (.seq (.region false [] [⟨some 3, .mov (.c (.bool true)), none⟩, ⟨some 4, .mov (.c (.bool true)), none⟩])
  .ret)))),
  [.v 3, .v 4]⟩
def ir_impl_isMarked : IFun := ⟨[0, 1, 2, 4],
  (.seq (.region false [] [⟨some 2, .box t_impl_Net 2 (.v 0), none⟩, ⟨some 3, .mov (.c (.bool false)), none⟩])
  (.seq (.region false [] [⟨none, .load true 2 (.v 2), none⟩, ⟨none, .call false f_impl_GoodNet [(.r 0)], none⟩, ⟨none, .mov (.r 1), none⟩, ⟨none, .faddr 0 (.v 2), some (2, true)⟩, ⟨none, .load false 1 (.r 3), some (2, true)⟩, ⟨none, .mov (.v 1), some (2, true)⟩, ⟨none, .call false f_impl_GoodMark [(.r 4), (.r 5)], some (2, true)⟩, ⟨none, .pick (.r 2) (.r 6) (.c (.bool false)), none⟩, ⟨some 3, .mov (.r 7), none⟩])
  .ret)),
  [.v 3]⟩
def ir_impl_isEnabled_1 : IFun := ⟨[0, 1, 3],
  (.seq (.region false [] [⟨some 2, .mov (.c (.bool false)), none⟩])
  (.seq (.region false [] [⟨none, .load false 1 (.v 1), none⟩, ⟨none, .mov (.v 0), none⟩, ⟨none, .iaddr 1 (.r 0) (.r 1), none⟩, ⟨none, .load false 1 (.r 2), none⟩, ⟨none, .bin false .eql (.r 3) (.c (.int .i64 0)), none⟩, ⟨some 2, .mov (.r 4), none⟩])
  .ret)),
  [.v 2]⟩
def ir_impl_isEnabled : IFun := ⟨[0, 1, 2, 3, 4],
  (.seq (.region false [] [⟨some 2, .box t_impl_Trans 3 (.v 0), none⟩, ⟨some 3, .box t_sl_int 1 (.v 1), none⟩, ⟨some 4, .mov (.c (.bool false)), none⟩])
  (.seq (.region false [] [⟨none, .faddr 0 (.v 2), none⟩, ⟨none, .load false 1 (.r 0), none⟩, ⟨none, .mkfn f_impl_isEnabled_1 [(.v 3)], none⟩, ⟨none, .call false f_slices_ContainsFunc_sl_int_int [(.r 1), (.r 2)], none⟩, ⟨none, .not (.r 3), none⟩, ⟨some 4, .mov (.r 4), none⟩])
  .ret)),
  [.v 4]⟩
def ir_impl_enabled : IFun := ⟨[0, 1, 2, 4, 5, 6, 7, 9, 10, 11, 12, 18],
  (.seq (.region false [] [⟨some 2, .box t_impl_Net 2 (.v 0), none⟩, ⟨some 3, .nilrow t_int true 1, none⟩])
  (.seq (.region false [] [⟨some 4, .nilrow t_int true 1, none⟩])
  (.seq (.seq (.region false [] [⟨none, .faddr 1 (.v 2), none⟩, ⟨some 7, .load false 1 (.r 0), none⟩, ⟨some 8, .len false (.v 7), none⟩, ⟨some 9, .mov (.c (.int .i64 0)), none⟩])
  (.block 0 (.loop [false, true, false, false, true, false, false, true, true, true, false, false] (.seq (.region false [] [⟨some 10, .bin false .lss (.v 9) (.v 8), none⟩])
  (.seq (.cond (.v 10) .skip (.exit 0))
  (.seq (.block 1 (.seq (.region false [] [⟨none, .mov (.v 9), none⟩, ⟨none, .iaddr 3 (.v 7) (.v 9), none⟩, ⟨none, .load true 3 (.r 1), none⟩, ⟨some 6, .alloc t_impl_Trans [(.nil true 1), (.nil true 1), (.nil true 1)], none⟩, ⟨some 5, .mov (.r 0), none⟩, ⟨none, .store 3 (.v 6) (.r 2), none⟩])
  (.seq (.region false [] [⟨none, .load true 3 (.v 6), none⟩, ⟨none, .mov (.v 1), none⟩, ⟨some 11, .call false f_impl_isEnabled [(.r 0), (.r 1)], none⟩])
  (.cond (.v 11) (.region false [] [⟨none, .mov (.v 4), none⟩, ⟨none, .mov (.v 5), none⟩, ⟨none, .bslice false t_int true 1 [(.r 1)], none⟩, ⟨none, .append t_int true 1 (.r 0) (.r 2), none⟩, ⟨some 4, .mov (.r 3), none⟩]) .skip))))
  (.region false [] [⟨none, .bin false .add (.v 9) (.c (.int .i64 1)), none⟩, ⟨some 9, .mov (.r 0), none⟩])))))))
  (.seq (.region false [] [⟨none, .mov (.v 4), none⟩, ⟨some 3, .mov (.r 0), none⟩])
  .ret)))),
  [.v 3]⟩
def ir_impl_Enabled : IFun := ⟨[0, 1, 2, 4, 5, 9],
  (.seq (.region false [] [⟨some 2, .box t_impl_Net 2 (.v 0), none⟩, ⟨some 3, .nilrow t_int true 1, none⟩, ⟨some 4, .mov (.c (.bool false)), none⟩])
  (.seq (.seq (.region false [] [⟨none, .load true 2 (.v 2), none⟩, ⟨none, .mov (.v 1), none⟩, ⟨none, .call false f_impl_isMarked [(.r 0), (.r 1)], none⟩, ⟨some 5, .not (.r 2), none⟩])
  (.cond (.v 5) (.seq (.region false [] [⟨some 3, .nilrow t_int true 1, none⟩, ⟨some 4, .mov (.c (.bool false)), none⟩])
  .ret) .skip))
  (.seq (.region false [] [⟨none, .load true 2 (.v 2), none⟩, ⟨none, .mov (.v 1), none⟩, ⟨none, .call false f_impl_enabled [(.r 0), (.r 1)], none⟩, ⟨some 3, .mov (.r 2), none⟩, ⟨some 4, .mov (.c (.bool true)), none⟩])
  .ret))),
  [.v 3, .v 4]⟩
def ir_laws_numberOf : IFun := ⟨[0, 2, 3, 5, 6, 7, 8, 9],
  (.seq (.region false [] [⟨some 1, .mov (.c (.int .i64 0)), none⟩])
  (.seq (.region false [] [⟨some 2, .mov (.c (.int .i64 0)), none⟩])
  (.seq (.seq (.region false [] [⟨some 4, .mov (.v 0), none⟩, ⟨some 5, .len false (.v 4), none⟩, ⟨some 6, .mov (.c (.int .i64 0)), none⟩])
  (.block 0 (.loop [false, false, true, false, true, true, true, false] (.seq (.region false [] [⟨some 7, .bin false .lss (.v 6) (.v 5), none⟩])
  (.seq (.cond (.v 7) .skip (.exit 0))
  (.seq (.block 1 (.seq (.region false [] [⟨none, .iaddr 1 (.v 4) (.v 6), none⟩, ⟨none, .load false 1 (.r 0), none⟩, ⟨some 3, .mov (.r 1), none⟩])
  (.region false [] [⟨none, .mov (.v 2), none⟩, ⟨none, .bin false .mul (.c (.int .i64 31)) (.r 0), none⟩, ⟨none, .mov (.v 3), none⟩, ⟨none, .conv .i64 (.r 2), none⟩, ⟨none, .bin false .add (.r 1) (.r 3), none⟩, ⟨none, .bin false .rem (.r 4) (.c (.int .i64 1000003)), none⟩, ⟨some 2, .mov (.r 5), none⟩])))
  (.region false [] [⟨none, .bin false .add (.v 6) (.c (.int .i64 1)), none⟩, ⟨some 6, .mov (.r 0), none⟩])))))))
  (.seq (.region false [] [⟨none, .mov (.v 2), none⟩, ⟨some 1, .mov (.r 0), none⟩])
  .ret)))),
  [.v 1]⟩
def ir_impl_isTrans : IFun := ⟨[0, 1, 2, 4],
  (.seq (.region false [] [⟨some 2, .box t_impl_Net 2 (.v 0), none⟩, ⟨some 3, .mov (.c (.bool false)), none⟩])
  (.seq (.region false [] [⟨none, .mov (.v 1), none⟩, ⟨none, .faddr 1 (.v 2), none⟩, ⟨none, .load false 1 (.r 1), none⟩, ⟨none, .len false (.r 2), none⟩, ⟨none, .bin false .sub (.r 3) (.c (.int .i64 1)), none⟩, ⟨none, .call false f_impl_within [(.r 0), (.c (.int .i64 0)), (.r 4)], none⟩, ⟨some 3, .mov (.r 5), none⟩])
  .ret)),
  [.v 3]⟩
def ir_impl_fired : IFun := ⟨[0, 1, 2, 4, 5, 7, 9, 11, 15, 16, 17, 18, 29, 30, 31, 32, 40, 41, 42, 43],
  (.seq (.region false [] [⟨some 2, .box t_impl_Trans 3 (.v 0), none⟩, ⟨some 3, .nilrow t_int true 1, none⟩])
  (.seq (.region false [] [⟨none, .mov (.v 1), none⟩, ⟨none, .call false f_slices_Clone_sl_int_int [(.r 0)], none⟩, ⟨some 4, .mov (.r 1), none⟩])
  (.seq (.seq (.region false [] [⟨none, .faddr 0 (.v 2), none⟩, ⟨some 8, .load false 1 (.r 0), none⟩, ⟨some 9, .len false (.v 8), none⟩, ⟨some 10, .mov (.c (.int .i64 0)), none⟩])
  (.block 0 (.loop [false, false, true, false, true, false, false, false, true, true, true, false, false, false, false, false, false, false, false, false] (.seq (.region false [] [⟨some 11, .bin false .lss (.v 10) (.v 9), none⟩])
  (.seq (.cond (.v 11) .skip (.exit 0))
  (.seq (.block 1 (.seq (.region false [] [⟨none, .iaddr 1 (.v 8) (.v 10), none⟩, ⟨none, .load false 1 (.r 0), none⟩, ⟨some 5, .mov (.r 1), none⟩])
  (.region false [] [⟨none, .mov (.v 4), none⟩, ⟨none, .mov (.v 5), none⟩, ⟨none, .iaddr 1 (.r 0) (.r 1), none⟩, ⟨none, .load false 1 (.r 2), none⟩, ⟨none, .bin false .sub (.r 3) (.c (.int .i64 1)), none⟩, ⟨none, .iaddr 1 (.r 0) (.r 1), none⟩, ⟨none, .store 1 (.r 5) (.r 4), none⟩])))
  (.region false [] [⟨none, .bin false .add (.v 10) (.c (.int .i64 1)), none⟩, ⟨some 10, .mov (.r 0), none⟩])))))))
  (.seq (.seq (.region false [] [⟨none, .faddr 2 (.v 2), none⟩, ⟨some 12, .load false 1 (.r 0), none⟩, ⟨some 13, .len false (.v 12), none⟩, ⟨some 14, .mov (.c (.int .i64 0)), none⟩])
  (.block 2 (.loop [false, false, true, false, true, false, false, false, false, false, false, false, true, true, true, false, false, false, false, false] (.seq (.region false [] [⟨some 15, .bin false .lss (.v 14) (.v 13), none⟩])
  (.seq (.cond (.v 15) .skip (.exit 2))
  (.seq (.block 3 (.seq (.region false [] [⟨none, .iaddr 1 (.v 12) (.v 14), none⟩, ⟨none, .load false 1 (.r 0), none⟩, ⟨some 6, .mov (.r 1), none⟩])
  (.region false [] [⟨none, .mov (.v 4), none⟩, ⟨none, .mov (.v 6), none⟩, ⟨none, .iaddr 1 (.r 0) (.r 1), none⟩, ⟨none, .store 1 (.r 2) (.c (.int .i64 0)), none⟩])))
  (.region false [] [⟨none, .bin false .add (.v 14) (.c (.int .i64 1)), none⟩, ⟨some 14, .mov (.r 0), none⟩])))))))
  (.seq (.seq (.region false [] [⟨none, .faddr 1 (.v 2), none⟩, ⟨some 16, .load false 1 (.r 0), none⟩, ⟨some 17, .len false (.v 16), none⟩, ⟨some 18, .mov (.c (.int .i64 0)), none⟩])
  (.block 4 (.loop [false, false, false, false, true, false, false, false, false, false, false, false, false, false, false, false, true, true, true, false] (.seq (.region false [] [⟨some 19, .bin false .lss (.v 18) (.v 17), none⟩])
  (.seq (.cond (.v 19) .skip (.exit 4))
  (.seq (.block 5 (.seq (.region false [] [⟨none, .iaddr 1 (.v 16) (.v 18), none⟩, ⟨none, .load false 1 (.r 0), none⟩, ⟨some 7, .mov (.r 1), none⟩])
  (.region false [] [⟨none, .mov (.v 4), none⟩, ⟨none, .mov (.v 7), none⟩, ⟨none, .iaddr 1 (.r 0) (.r 1), none⟩, ⟨none, .load false 1 (.r 2), none⟩, ⟨none, .bin false .add (.r 3) (.c (.int .i64 1)), none⟩, ⟨none, .iaddr 1 (.r 0) (.r 1), none⟩, ⟨none, .store 1 (.r 5) (.r 4), none⟩])))
  (.region false [] [⟨none, .bin false .add (.v 18) (.c (.int .i64 1)), none⟩, ⟨some 18, .mov (.r 0), none⟩])))))))
  (.seq (.region false [] [⟨none, .mov (.v 4), none⟩, ⟨some 3, .mov (.r 0), none⟩])
  .ret)))))),
  [.v 3]⟩
def ir_impl_checkedMark : IFun := ⟨[0, 2, 3, 6],
  (.seq (.region false [] [⟨some 1, .nilrow t_int true 1, none⟩, ⟨some 2, .mov (.c (.bool false)), none⟩])
  (.seq (.seq (.region false [] [⟨none, .mov (.v 0), none⟩, ⟨none, .call false f_impl_allWithin [(.r 0), (.c (.int .i64 0)), (.c (.int .i64 50))], none⟩, ⟨some 3, .not (.r 1), none⟩])
  (.cond (.v 3) (.seq (.region false [] [⟨some 1, .nilrow t_int true 1, none⟩, ⟨some 2, .mov (.c (.bool false)), none⟩])
  .ret) .skip))
  (.seq (.region false [] [⟨none, .mov (.v 0), none⟩, ⟨some 1, .mov (.r 0), none⟩, ⟨some 2, .mov (.c (.bool true)), none⟩])
  .ret))),
  [.v 1, .v 2]⟩
def ir_impl_Fire : IFun := ⟨[0, 1, 2, 3, 6, 7, 27],
  (.seq (.region false [] [⟨some 3, .box t_impl_Net 2 (.v 0), none⟩, ⟨some 4, .nilrow t_int true 1, none⟩, ⟨some 5, .mov (.c (.bool false)), none⟩])
  (.seq (.seq (.region false [] [⟨none, .load true 2 (.v 3), none⟩, ⟨none, .mov (.v 1), none⟩, ⟨none, .call false f_impl_isMarked [(.r 0), (.r 1)], none⟩, ⟨none, .not (.r 2), none⟩, ⟨none, .mov (.r 3), none⟩, ⟨none, .load true 2 (.v 3), some (4, false)⟩, ⟨none, .mov (.v 2), some (4, false)⟩, ⟨none, .call false f_impl_isTrans [(.r 5), (.r 6)], some (4, false)⟩, ⟨none, .not (.r 7), some (4, false)⟩, ⟨none, .pick (.r 4) (.c (.bool true)) (.r 8), none⟩, ⟨none, .mov (.r 9), none⟩, ⟨none, .faddr 1 (.v 3), some (10, false)⟩, ⟨none, .load false 1 (.r 11), some (10, false)⟩, ⟨none, .mov (.v 2), some (10, false)⟩, ⟨none, .iaddr 3 (.r 12) (.r 13), some (10, false)⟩, ⟨none, .load true 3 (.r 14), some (10, false)⟩, ⟨none, .mov (.v 1), some (10, false)⟩, ⟨none, .call false f_impl_isEnabled [(.r 15), (.r 16)], some (10, false)⟩, ⟨none, .not (.r 17), some (10, false)⟩, ⟨some 6, .pick (.r 10) (.c (.bool true)) (.r 18), none⟩])
  (.cond (.v 6) (.seq (.region false [] [⟨some 4, .nilrow t_int true 1, none⟩, ⟨some 5, .mov (.c (.bool false)), none⟩])
  .ret) .skip))
  (.seq (.region false [] [⟨none, .faddr 1 (.v 3), none⟩, ⟨none, .load false 1 (.r 0), none⟩, ⟨none, .mov (.v 2), none⟩, ⟨none, .iaddr 3 (.r 1) (.r 2), none⟩, ⟨none, .load true 3 (.r 3), none⟩, ⟨none, .mov (.v 1), none⟩, ⟨none, .call false f_impl_fired [(.r 4), (.r 5)], none⟩, ⟨none, .call false f_impl_checkedMark [(.r 6)], none⟩, ⟨none, .extract (.r 7) 0, none⟩, ⟨none, .extract (.r 7) 1, none⟩, ⟨some 4, .mov (.r 8), none⟩, ⟨some 5, .mov (.r 9), none⟩])
  .ret))),
  [.v 4, .v 5]⟩
def ir_slices_Equal_sl_int_int : IFun := ⟨[0, 1, 4, 5, 10, 12, 13, 14, 24],
  (.seq (.region false [] [⟨some 2, .mov (.c (.bool false)), none⟩])
  (.seq (.seq (.region false [] [⟨none, .mov (.v 0), none⟩, ⟨none, .len false (.r 0), none⟩, ⟨none, .mov (.v 1), none⟩, ⟨none, .len false (.r 2), none⟩, ⟨some 4, .bin false .neq (.r 1) (.r 3), none⟩])
  (.cond (.v 4) (.seq (.region false [] [⟨some 2, .mov (.c (.bool false)), none⟩])
  .ret) .skip))
  (.seq (.seq (.region false [] [⟨none, .mov (.v 0), none⟩, ⟨some 5, .len false (.r 0), none⟩, ⟨some 6, .mov (.c (.int .i64 0)), none⟩])
  (.block 0 (.loop [true, true, false, false, false, true, true, false, false] (.seq (.region false [] [⟨some 7, .bin false .lss (.v 6) (.v 5), none⟩])
  (.seq (.cond (.v 7) .skip (.exit 0))
  (.seq (.block 1 (.seq (.region false [] [⟨none, .mov (.v 6), none⟩, ⟨some 3, .mov (.r 0), none⟩])
  (.seq (.region true [] [⟨none, .mov (.v 0), none⟩, ⟨none, .mov (.v 3), none⟩, ⟨none, .iaddr 1 (.r 0) (.r 1), none⟩, ⟨none, .load false 1 (.r 2), none⟩, ⟨none, .mov (.v 1), none⟩, ⟨none, .mov (.v 3), none⟩, ⟨none, .iaddr 1 (.r 4) (.r 5), none⟩, ⟨none, .load false 1 (.r 6), none⟩, ⟨some 8, .bin false .neq (.r 3) (.r 7), none⟩])
  (.cond (.v 8) (.seq (.region false [] [⟨some 2, .mov (.c (.bool false)), none⟩])
  .ret) .skip))))
  (.region false [] [⟨none, .bin false .add (.v 6) (.c (.int .i64 1)), none⟩, ⟨some 6, .mov (.r 0), none⟩])))))))
  (.seq (.region false [] [⟨some 2, .mov (.c (.bool true)), none⟩])
  .ret)))),
  [.v 2]⟩
def ir_impl_Space_find_1 : IFun := ⟨[0, 1, 3],
  (.seq (.region false [] [⟨some 2, .mov (.c (.bool false)), none⟩])
  (.seq (.region false [] [⟨none, .mov (.v 0), none⟩, ⟨none, .load false 1 (.v 1), none⟩, ⟨none, .call false f_slices_Equal_sl_int_int [(.r 0), (.r 1)], none⟩, ⟨some 2, .mov (.r 2), none⟩])
  .ret)),
  [.v 2]⟩
def ir_slices_IndexFunc_sl_sl_int_sl_int : IFun := ⟨[0, 1, 4, 5, 7, 8, 9, 16],
  (.seq (.region false [] [⟨some 2, .mov (.c (.int .i64 0)), none⟩])
  (.seq (.seq (.region false [] [⟨none, .mov (.v 0), none⟩, ⟨some 4, .len false (.r 0), none⟩, ⟨some 5, .mov (.c (.int .i64 0)), none⟩])
  (.block 0 (.loop [true, true, false, false, true, true, false, false] (.seq (.region false [] [⟨some 6, .bin false .lss (.v 5) (.v 4), none⟩])
  (.seq (.cond (.v 6) .skip (.exit 0))
  (.seq (.block 1 (.seq (.region false [] [⟨none, .mov (.v 5), none⟩, ⟨some 3, .mov (.r 0), none⟩])
  (.seq (.region false [] [⟨none, .mov (.v 1), none⟩, ⟨none, .mov (.v 0), none⟩, ⟨none, .mov (.v 3), none⟩, ⟨none, .iaddr 1 (.r 1) (.r 2), none⟩, ⟨none, .load false 1 (.r 3), none⟩, ⟨some 7, .callv false (.r 0) [(.r 4)], none⟩])
  (.cond (.v 7) (.seq (.region false [] [⟨none, .mov (.v 3), none⟩, ⟨some 2, .mov (.r 0), none⟩])
  .ret) .skip))))
  (.region false [] [⟨none, .bin false .add (.v 5) (.c (.int .i64 1)), none⟩, ⟨some 5, .mov (.r 0), none⟩])))))))
  (.seq (.region false [] [⟨some 2, .mov (.c (.int .i64 (-1))), none⟩])
  .ret))),
  [.v 2]⟩
def ir_impl_Space_find : IFun := ⟨[0, 1, 2, 3, 4],
  (.seq (.region false [] [⟨some 2, .box t_impl_Space 2 (.v 0), none⟩, ⟨some 3, .box t_sl_int 1 (.v 1), none⟩, ⟨some 4, .mov (.c (.int .i64 0)), none⟩])
  (.seq (.region false [] [⟨none, .faddr 0 (.v 2), none⟩, ⟨none, .load false 1 (.r 0), none⟩, ⟨none, .mkfn f_impl_Space_find_1 [(.v 3)], none⟩, ⟨none, .call false f_slices_IndexFunc_sl_sl_int_sl_int [(.r 1), (.r 2)], none⟩, ⟨some 4, .mov (.r 3), none⟩])
  .ret)),
  [.v 4]⟩
def ir_impl_explore : IFun := ⟨[0, 1, 2, 3, 6, 7, 8, 9, 11, 12, 13, 22, 31, 32, 33, 34, 50, 56, 61],
  (.seq (.region false [] [⟨some 3, .box t_impl_Net 2 (.v 0), none⟩, ⟨some 4, .alloc t_impl_Space [(.nil false 1), (.nil true 3)], none⟩, ⟨some 5, .mov (.c (.int .i64 0)), none⟩])
  (.seq (.region false [] [⟨none, .mov (.v 1), none⟩, ⟨none, .call false f_slices_Clone_sl_int_int [(.r 0)], none⟩, ⟨none, .bslice false t_sl_int false 1 [(.r 1)], none⟩, ⟨none, .build [(.nil false 1), (.nil true 3)] [(0, 1, (.r 2))], none⟩, ⟨some 6, .alloc t_impl_Space [(.nil false 1), (.nil true 3)], none⟩, ⟨none, .store 2 (.v 6) (.r 3), none⟩])
  (.seq (.seq (.region false [] [⟨some 7, .mov (.c (.int .i64 0)), none⟩])
  (.block 0 (.loop [false, false, true, true, true, false, true, true, false, false, false, false, false, false, false, false, false, false, false] (.seq (.seq (.region false [] [⟨none, .mov (.v 7), none⟩, ⟨none, .faddr 0 (.v 6), none⟩, ⟨none, .load false 1 (.r 1), none⟩, ⟨none, .len false (.r 2), none⟩, ⟨some 11, .bin false .lss (.r 0) (.r 3), none⟩])
  (.cond (.v 11) .skip (.exit 0)))
  (.seq (.block 1 (.seq (.region true [] [⟨none, .load true 2 (.v 3), none⟩, ⟨none, .faddr 0 (.v 6), none⟩, ⟨none, .load false 1 (.r 1), none⟩, ⟨none, .mov (.v 7), none⟩, ⟨none, .iaddr 1 (.r 2) (.r 3), none⟩, ⟨none, .load false 1 (.r 4), none⟩, ⟨some 14, .mov (.c (.int .i64 0)), none⟩, ⟨some 12, .call false f_impl_enabled [(.r 0), (.r 5)], none⟩, ⟨some 13, .len false (.v 12), none⟩])
  (.block 2 (.loop [false, false, true, true, true, false, true, true, false, false, false, false, true, true, true, false, false, false, false] (.seq (.region false [] [⟨some 15, .bin false .lss (.v 14) (.v 13), none⟩])
  (.seq (.cond (.v 15) .skip (.exit 2))
  (.seq (.block 3 (.seq (.region false [] [⟨none, .iaddr 1 (.v 12) (.v 14), none⟩, ⟨none, .load false 1 (.r 0), none⟩, ⟨some 8, .mov (.r 1), none⟩])
  (.seq (.region true [] [⟨none, .faddr 1 (.v 3), none⟩, ⟨none, .load false 1 (.r 0), none⟩, ⟨none, .mov (.v 8), none⟩, ⟨none, .iaddr 3 (.r 1) (.r 2), none⟩, ⟨none, .load true 3 (.r 3), none⟩, ⟨none, .faddr 0 (.v 6), none⟩, ⟨none, .load false 1 (.r 5), none⟩, ⟨none, .mov (.v 7), none⟩, ⟨none, .iaddr 1 (.r 6) (.r 7), none⟩, ⟨none, .load false 1 (.r 8), none⟩, ⟨none, .call false f_impl_fired [(.r 4), (.r 9)], none⟩, ⟨some 9, .mov (.r 10), none⟩])
  (.seq (.seq (.region false [] [⟨none, .mov (.v 9), none⟩, ⟨none, .call false f_impl_allWithin [(.r 0), (.c (.int .i64 0)), (.c (.int .i64 50))], none⟩, ⟨some 16, .not (.r 1), none⟩])
  (.cond (.v 16) (.seq (.region false [] [⟨none, .build [(.nil false 1), (.nil true 3)] [], none⟩, ⟨none, .store 2 (.v 4) (.r 0), none⟩, ⟨some 5, .mov (.c (.int .i64 3)), none⟩])
  .ret) .skip))
  (.seq (.region false [] [⟨none, .load true 2 (.v 6), none⟩, ⟨none, .mov (.v 9), none⟩, ⟨none, .call false f_impl_Space_find [(.r 0), (.r 1)], none⟩, ⟨some 10, .mov (.r 2), none⟩])
  (.seq (.seq (.region false [] [⟨none, .mov (.v 10), none⟩, ⟨some 17, .bin false .lss (.r 0) (.c (.int .i64 0)), none⟩])
  (.cond (.v 17) (.seq (.seq (.region false [] [⟨none, .faddr 0 (.v 6), none⟩, ⟨none, .load false 1 (.r 0), none⟩, ⟨none, .len false (.r 1), none⟩, ⟨none, .mov (.v 2), none⟩, ⟨some 18, .bin false .geq (.r 2) (.r 3), none⟩])
  (.cond (.v 18) (.seq (.region false [] [⟨none, .build [(.nil false 1), (.nil true 3)] [], none⟩, ⟨none, .store 2 (.v 4) (.r 0), none⟩, ⟨some 5, .mov (.c (.int .i64 2)), none⟩])
  .ret) .skip))
  (.seq (.region false [] [⟨none, .faddr 0 (.v 6), none⟩, ⟨none, .load false 1 (.r 0), none⟩, ⟨none, .len false (.r 1), none⟩, ⟨some 10, .mov (.r 2), none⟩])
  (.region false [] [⟨none, .faddr 0 (.v 6), none⟩, ⟨none, .load false 1 (.r 0), none⟩, ⟨none, .mov (.v 9), none⟩, ⟨none, .bslice false t_sl_int false 1 [(.r 2)], none⟩, ⟨none, .append t_sl_int false 1 (.r 1) (.r 3), none⟩, ⟨none, .faddr 0 (.v 6), none⟩, ⟨none, .store 1 (.r 5) (.r 4), none⟩]))) .skip))
  (.region false [] [⟨none, .faddr 1 (.v 6), none⟩, ⟨none, .load false 1 (.r 0), none⟩, ⟨none, .mov (.v 7), none⟩, ⟨none, .mov (.v 8), none⟩, ⟨none, .mov (.v 10), none⟩, ⟨none, .build [(.int .i64 0), (.int .i64 0), (.int .i64 0)] [(0, 1, (.r 2)), (1, 1, (.r 3)), (2, 1, (.r 4))], none⟩, ⟨none, .bslice false t_impl_Arc true 3 [(.r 5)], none⟩, ⟨none, .append t_impl_Arc true 3 (.r 1) (.r 6), none⟩, ⟨none, .faddr 1 (.v 6), none⟩, ⟨none, .store 1 (.r 8) (.r 7), none⟩])))))))
  (.region false [] [⟨none, .bin false .add (.v 14) (.c (.int .i64 1)), none⟩, ⟨some 14, .mov (.r 0), none⟩]))))))))
  (.region false [] [⟨none, .mov (.v 7), none⟩, ⟨none, .bin false .add (.r 0) (.c (.int .i64 1)), none⟩, ⟨some 7, .mov (.r 1), none⟩]))))))
  (.seq (.region false [] [⟨none, .load true 2 (.v 6), none⟩, ⟨none, .store 2 (.v 4) (.r 0), none⟩, ⟨some 5, .mov (.c (.int .i64 1)), none⟩])
  .ret)))),
  [.cell true 2 4, .v 5]⟩
def ir_impl_Explore : IFun := ⟨[0, 1, 2, 3, 6, 7, 8, 9, 10, 19],
  (.seq (.region false [] [⟨some 3, .box t_impl_Net 2 (.v 0), none⟩, ⟨some 4, .alloc t_impl_Space [(.nil false 1), (.nil true 3)], none⟩, ⟨some 5, .mov (.c (.int .i64 0)), none⟩, ⟨some 6, .mov (.c (.bool false)), none⟩])
  (.seq (.seq (.region false [] [⟨none, .load true 2 (.v 3), none⟩, ⟨none, .mov (.v 1), none⟩, ⟨none, .call false f_impl_isMarked [(.r 0), (.r 1)], none⟩, ⟨none, .not (.r 2), none⟩, ⟨none, .mov (.r 3), none⟩, ⟨none, .mov (.v 2), some (4, false)⟩, ⟨none, .call false f_impl_within [(.r 5), (.c (.int .i64 1)), (.c (.int .i64 400))], some (4, false)⟩, ⟨none, .not (.r 6), some (4, false)⟩, ⟨some 9, .pick (.r 4) (.c (.bool true)) (.r 7), none⟩])
  (.cond (.v 9) (.seq (.region false [] [⟨none, .build [(.nil false 1), (.nil true 3)] [], none⟩, ⟨none, .store 2 (.v 4) (.r 0), none⟩, ⟨some 5, .mov (.c (.int .i64 0)), none⟩, ⟨some 6, .mov (.c (.bool false)), none⟩])
  .ret) .skip))
  (.seq (.region false [] [⟨none, .load true 2 (.v 3), none⟩, ⟨none, .mov (.v 1), none⟩, ⟨none, .mov (.v 2), none⟩, ⟨none, .call false f_impl_explore [(.r 0), (.r 1), (.r 2)], none⟩, ⟨none, .mov (.r 3), none⟩, ⟨none, .extract (.r 4) 0, none⟩, ⟨none, .extract (.r 4) 1, none⟩, ⟨some 7, .alloc t_impl_Space [(.nil false 1), (.nil true 3)], none⟩, ⟨none, .store 2 (.v 7) (.r 5), none⟩, ⟨some 8, .mov (.r 6), none⟩])
  (.seq (.region false [] [⟨none, .load true 2 (.v 7), none⟩, ⟨none, .mov (.v 8), none⟩, ⟨none, .store 2 (.v 4) (.r 0), none⟩, ⟨some 5, .mov (.r 1), none⟩, ⟨some 6, .mov (.c (.bool true)), none⟩])
  .ret)))),
  [.cell true 2 4, .v 5, .v 6]⟩
def ir_impl_wholeSpace : IFun := ⟨[0, 1, 2, 3, 6, 7, 8, 9, 10],
  (.seq (.region false [] [⟨some 3, .box t_impl_Net 2 (.v 0), none⟩, ⟨some 4, .alloc t_impl_Space [(.nil false 1), (.nil true 3)], none⟩, ⟨some 5, .mov (.c (.bool false)), none⟩])
  (.seq (.region false [] [⟨none, .load true 2 (.v 3), none⟩, ⟨none, .mov (.v 1), none⟩, ⟨none, .mov (.v 2), none⟩, ⟨none, .call false f_impl_Explore [(.r 0), (.r 1), (.r 2)], none⟩, ⟨none, .mov (.r 3), none⟩, ⟨none, .extract (.r 4) 0, none⟩, ⟨none, .extract (.r 4) 1, none⟩, ⟨none, .extract (.r 4) 2, none⟩, ⟨some 6, .alloc t_impl_Space [(.nil false 1), (.nil true 3)], none⟩, ⟨none, .store 2 (.v 6) (.r 5), none⟩, ⟨some 7, .mov (.r 6), none⟩, ⟨some 8, .mov (.r 7), none⟩])
  (.seq (.region false [] [⟨none, .load true 2 (.v 6), none⟩, ⟨none, .mov (.v 8), none⟩, ⟨none, .mov (.r 1), none⟩, ⟨none, .mov (.v 7), some (2, true)⟩, ⟨none, .bin false .eql (.r 3) (.c (.int .i64 1)), some (2, true)⟩, ⟨none, .pick (.r 2) (.r 4) (.c (.bool false)), none⟩, ⟨none, .store 2 (.v 4) (.r 0), none⟩, ⟨some 5, .mov (.r 5), none⟩])
  .ret))),
  [.cell true 2 4, .v 5]⟩
def ir_impl_FirstDead : IFun := ⟨[0, 1, 2, 3, 6, 7, 8, 9, 11, 20, 22, 23, 24, 25, 32],
  (.seq (.region false [] [⟨some 3, .box t_impl_Net 2 (.v 0), none⟩, ⟨some 4, .nilrow t_int true 1, none⟩, ⟨some 5, .mov (.c (.bool false)), none⟩])
  (.seq (.region false [] [⟨none, .load true 2 (.v 3), none⟩, ⟨none, .mov (.v 1), none⟩, ⟨none, .mov (.v 2), none⟩, ⟨none, .call false f_impl_wholeSpace [(.r 0), (.r 1), (.r 2)], none⟩, ⟨none, .mov (.r 3), none⟩, ⟨none, .extract (.r 4) 0, none⟩, ⟨none, .extract (.r 4) 1, none⟩, ⟨some 6, .alloc t_impl_Space [(.nil false 1), (.nil true 3)], none⟩, ⟨none, .store 2 (.v 6) (.r 5), none⟩, ⟨some 7, .mov (.r 6), none⟩])
  (.seq (.seq (.region false [] [⟨none, .mov (.v 7), none⟩, ⟨some 9, .not (.r 0), none⟩])
  (.cond (.v 9) (.seq (.region false [] [⟨some 4, .nilrow t_int true 1, none⟩, ⟨some 5, .mov (.c (.bool false)), none⟩])
  .ret) .skip))
  (.seq (.seq (.region false [] [⟨none, .faddr 0 (.v 6), none⟩, ⟨some 10, .load false 1 (.r 0), none⟩, ⟨some 11, .len false (.v 10), none⟩, ⟨some 12, .mov (.c (.int .i64 0)), none⟩])
  (.block 0 (.loop [false, false, false, true, false, false, false, false, false, false, true, true, true, false, false] (.seq (.region false [] [⟨some 13, .bin false .lss (.v 12) (.v 11), none⟩])
  (.seq (.cond (.v 13) .skip (.exit 0))
  (.seq (.block 1 (.seq (.region false [] [⟨none, .iaddr 1 (.v 10) (.v 12), none⟩, ⟨none, .load false 1 (.r 0), none⟩, ⟨some 8, .mov (.r 1), none⟩])
  (.seq (.region false [] [⟨none, .load true 2 (.v 3), none⟩, ⟨none, .mov (.v 8), none⟩, ⟨none, .call false f_impl_enabled [(.r 0), (.r 1)], none⟩, ⟨none, .len false (.r 2), none⟩, ⟨some 14, .bin false .eql (.r 3) (.c (.int .i64 0)), none⟩])
  (.cond (.v 14) (.seq (.region false [] [⟨none, .mov (.v 8), none⟩, ⟨none, .call false f_slices_Clone_sl_int_int [(.r 0)], none⟩, ⟨some 4, .mov (.r 1), none⟩, ⟨some 5, .mov (.c (.bool true)), none⟩])
  .ret) .skip))))
  (.region false [] [⟨none, .bin false .add (.v 12) (.c (.int .i64 1)), none⟩, ⟨some 12, .mov (.r 0), none⟩])))))))
  (.seq (.region false [] [⟨some 4, .nilrow t_int true 1, none⟩, ⟨some 5, .mov (.c (.bool false)), none⟩])
  .ret))))),
  [.v 4, .v 5]⟩
def ir_spec_DrawSmallInvariants : IFun := ⟨[0, 2, 3],
  (.seq (.region false [] [⟨some 1, .alloc t_impl_Net [(.int .i64 0), (.nil false 3)], none⟩])
  (.seq (.region false [] [⟨none, .mov (.v 0), none⟩, ⟨none, .build [(.nil true 1), (.int .i64 0), (.int .u64 0)] [(0, 1, (.r 0))], none⟩, ⟨none, .box t_spec_l1Cur 3 (.r 1), none⟩, ⟨some 2, .mov (.r 2), none⟩])
  (.seq (.region false [] [⟨none, .mov (.v 2), none⟩, ⟨none, .callm f_spec_l1Cur_kept [(.r 0)], none⟩, ⟨none, .store 2 (.v 1) (.r 1), none⟩])
  .ret))),
  [.cell true 2 1]⟩
def ir_spec_DrawSmallSiphons : IFun := ⟨[0, 2],
  (.seq (.region false [] [⟨some 1, .alloc t_impl_Net [(.int .i64 0), (.nil false 3)], none⟩])
  (.seq (.region false [] [⟨none, .mov (.v 0), none⟩, ⟨none, .call false f_spec_DrawSmallInvariants [(.r 0)], none⟩, ⟨none, .store 2 (.v 1) (.r 1), none⟩])
  .ret)),
  [.cell true 2 1]⟩
def ir_impl_SmallSiphons_1 : IFun := ⟨[0, 1, 3],
  (.seq (.region false [] [⟨some 2, .mov (.c (.bool false)), none⟩])
  (.seq (.region false [] [⟨none, .load true 2 (.v 1), none⟩, ⟨none, .mov (.v 0), none⟩, ⟨none, .call false f_impl_isSiphon [(.r 0), (.r 1)], none⟩, ⟨some 2, .mov (.r 2), none⟩])
  .ret)),
  [.v 2]⟩
def ir_impl_setsOf : IFun := ⟨[0, 2, 3, 5, 6, 7, 8, 9],
  (.seq (.region false [] [⟨some 1, .nilrow t_sl_int false 1, none⟩])
  (.seq (.region false [] [⟨some 2, .nilrow t_sl_int false 1, none⟩])
  (.seq (.seq (.region false [] [⟨some 4, .mov (.v 0), none⟩, ⟨some 5, .len false (.v 4), none⟩, ⟨some 6, .mov (.c (.int .i64 0)), none⟩])
  (.block 0 (.loop [false, false, true, false, true, true, true, false] (.seq (.region false [] [⟨some 7, .bin false .lss (.v 6) (.v 5), none⟩])
  (.seq (.cond (.v 7) .skip (.exit 0))
  (.seq (.block 1 (.seq (.region false [] [⟨none, .iaddr 1 (.v 4) (.v 6), none⟩, ⟨none, .load false 1 (.r 0), none⟩, ⟨some 3, .mov (.r 1), none⟩])
  (.region false [] [⟨none, .mov (.v 2), none⟩, ⟨none, .mov (.v 3), none⟩, ⟨none, .call false f_impl_setOf [(.r 1)], none⟩, ⟨none, .bslice false t_sl_int false 1 [(.r 2)], none⟩, ⟨none, .append t_sl_int false 1 (.r 0) (.r 3), none⟩, ⟨some 2, .mov (.r 4), none⟩])))
  (.region false [] [⟨none, .bin false .add (.v 6) (.c (.int .i64 1)), none⟩, ⟨some 6, .mov (.r 0), none⟩])))))))
  (.seq (.region false [] [⟨none, .mov (.v 2), none⟩, ⟨some 1, .mov (.r 0), none⟩])
  .ret)))),
  [.v 1]⟩
def ir_impl_SmallSiphons : IFun := ⟨[0, 1, 2, 3, 6],
  (.seq (.region false [] [⟨some 1, .box t_impl_Net 2 (.v 0), none⟩, ⟨some 2, .nilrow t_sl_int false 1, none⟩, ⟨some 3, .mov (.c (.bool false)), none⟩])
  (.seq (.seq (.region false [] [⟨none, .load true 2 (.v 1), none⟩, ⟨none, .call false f_impl_isSmall [(.r 0)], none⟩, ⟨some 4, .not (.r 1), none⟩])
  (.cond (.v 4) (.seq (.region false [] [⟨some 2, .nilrow t_sl_int false 1, none⟩, ⟨some 3, .mov (.c (.bool false)), none⟩])
  .ret) .skip))
  (.seq (.region false [] [⟨none, .load true 2 (.v 1), none⟩, ⟨none, .mkfn f_impl_SmallSiphons_1 [(.v 1)], none⟩, ⟨none, .call false f_impl_smallSets [(.r 0), (.r 1)], none⟩, ⟨none, .call false f_impl_setsOf [(.r 2)], none⟩, ⟨some 2, .mov (.r 3), none⟩, ⟨some 3, .mov (.c (.bool true)), none⟩])
  .ret))),
  [.v 2, .v 3]⟩
def ir_spec_SmallSiphons : IFun := ⟨[0, 1, 2, 3, 11],
  (.seq (.region false [] [⟨some 1, .box t_impl_Net 2 (.v 0), none⟩, ⟨some 2, .nilrow t_sl_int false 1, none⟩, ⟨some 3, .mov (.c (.bool false)), none⟩])
  (.seq (.seq (.region false [] [⟨none, .load true 2 (.v 1), none⟩, ⟨none, .call false f_spec_l7Plain [(.r 0)], none⟩, ⟨none, .not (.r 1), none⟩, ⟨none, .mov (.r 2), none⟩, ⟨none, .faddr 0 (.v 1), some (3, false)⟩, ⟨none, .load false 1 (.r 4), some (3, false)⟩, ⟨none, .bin false .gtr (.r 5) (.c (.int .i64 10)), some (3, false)⟩, ⟨some 4, .pick (.r 3) (.c (.bool true)) (.r 6), none⟩])
  (.cond (.v 4) (.seq (.region false [] [⟨some 2, .nilrow t_sl_int false 1, none⟩, ⟨some 3, .mov (.c (.bool false)), none⟩])
  .ret) .skip))
  (.seq (.region false [] [⟨none, .load true 2 (.v 1), none⟩, ⟨none, .call false f_spec_l8Small [(.r 0)], none⟩, ⟨some 2, .mov (.r 1), none⟩, ⟨some 3, .mov (.c (.bool true)), none⟩])
  .ret))),
  [.v 2, .v 3]⟩
def ir_laws_sameInts : IFun := ⟨[0, 1, 4, 5, 10, 12, 13, 14, 24],
  (.seq (.region false [] [⟨some 2, .mov (.c (.bool false)), none⟩])
  (.seq (.seq (.region false [] [⟨none, .mov (.v 0), none⟩, ⟨none, .len false (.r 0), none⟩, ⟨none, .mov (.v 1), none⟩, ⟨none, .len false (.r 2), none⟩, ⟨some 4, .bin false .neq (.r 1) (.r 3), none⟩])
  (.cond (.v 4) (.seq (.region false [] [⟨some 2, .mov (.c (.bool false)), none⟩])
  .ret) .skip))
  (.seq (.seq (.region false [] [⟨none, .mov (.v 0), none⟩, ⟨some 5, .len false (.r 0), none⟩, ⟨some 6, .mov (.c (.int .i64 0)), none⟩])
  (.block 0 (.loop [true, true, false, false, false, true, true, false, false] (.seq (.region false [] [⟨some 7, .bin false .lss (.v 6) (.v 5), none⟩])
  (.seq (.cond (.v 7) .skip (.exit 0))
  (.seq (.block 1 (.seq (.region false [] [⟨none, .mov (.v 6), none⟩, ⟨some 3, .mov (.r 0), none⟩])
  (.seq (.region true [] [⟨none, .mov (.v 0), none⟩, ⟨none, .mov (.v 3), none⟩, ⟨none, .iaddr 1 (.r 0) (.r 1), none⟩, ⟨none, .load false 1 (.r 2), none⟩, ⟨none, .mov (.v 1), none⟩, ⟨none, .mov (.v 3), none⟩, ⟨none, .iaddr 1 (.r 4) (.r 5), none⟩, ⟨none, .load false 1 (.r 6), none⟩, ⟨some 8, .bin false .neq (.r 3) (.r 7), none⟩])
  (.cond (.v 8) (.seq (.region false [] [⟨some 2, .mov (.c (.bool false)), none⟩])
  .ret) .skip))))
  (.region false [] [⟨none, .bin false .add (.v 6) (.c (.int .i64 1)), none⟩, ⟨some 6, .mov (.r 0), none⟩])))))))
  (.seq (.region false [] [⟨some 2, .mov (.c (.bool true)), none⟩])
  .ret)))),
  [.v 2]⟩
def ir_laws_sameLists : IFun := ⟨[0, 1, 4, 5, 10, 12, 13, 14, 25],
  (.seq (.region false [] [⟨some 2, .mov (.c (.bool false)), none⟩])
  (.seq (.seq (.region false [] [⟨none, .mov (.v 0), none⟩, ⟨none, .len false (.r 0), none⟩, ⟨none, .mov (.v 1), none⟩, ⟨none, .len false (.r 2), none⟩, ⟨some 4, .bin false .neq (.r 1) (.r 3), none⟩])
  (.cond (.v 4) (.seq (.region false [] [⟨some 2, .mov (.c (.bool false)), none⟩])
  .ret) .skip))
  (.seq (.seq (.region false [] [⟨none, .mov (.v 0), none⟩, ⟨some 5, .len false (.r 0), none⟩, ⟨some 6, .mov (.c (.int .i64 0)), none⟩])
  (.block 0 (.loop [true, true, false, false, false, true, true, false, false] (.seq (.region false [] [⟨some 7, .bin false .lss (.v 6) (.v 5), none⟩])
  (.seq (.cond (.v 7) .skip (.exit 0))
  (.seq (.block 1 (.seq (.region false [] [⟨none, .mov (.v 6), none⟩, ⟨some 3, .mov (.r 0), none⟩])
  (.seq (.region true [] [⟨none, .mov (.v 0), none⟩, ⟨none, .mov (.v 3), none⟩, ⟨none, .iaddr 1 (.r 0) (.r 1), none⟩, ⟨none, .load false 1 (.r 2), none⟩, ⟨none, .mov (.v 1), none⟩, ⟨none, .mov (.v 3), none⟩, ⟨none, .iaddr 1 (.r 4) (.r 5), none⟩, ⟨none, .load false 1 (.r 6), none⟩, ⟨none, .call false f_laws_sameInts [(.r 3), (.r 7)], none⟩, ⟨some 8, .not (.r 8), none⟩])
  (.cond (.v 8) (.seq (.region false [] [⟨some 2, .mov (.c (.bool false)), none⟩])
  .ret) .skip))))
  (.region false [] [⟨none, .bin false .add (.v 6) (.c (.int .i64 1)), none⟩, ⟨some 6, .mov (.r 0), none⟩])))))))
  (.seq (.region false [] [⟨some 2, .mov (.c (.bool true)), none⟩])
  .ret)))),
  [.v 2]⟩
def ir_impl_IsSiphon : IFun := ⟨[0, 1, 2, 4, 5, 14],
  (.seq (.region false [] [⟨some 2, .box t_impl_Net 2 (.v 0), none⟩, ⟨some 3, .mov (.c (.bool false)), none⟩, ⟨some 4, .mov (.c (.bool false)), none⟩])
  (.seq (.seq (.region false [] [⟨none, .load true 2 (.v 2), none⟩, ⟨none, .call false f_impl_isPlain [(.r 0)], none⟩, ⟨none, .not (.r 1), none⟩, ⟨none, .mov (.r 2), none⟩, ⟨none, .load true 2 (.v 2), some (3, false)⟩, ⟨none, .mov (.v 1), some (3, false)⟩, ⟨none, .call false f_impl_arePlaces [(.r 4), (.r 5)], some (3, false)⟩, ⟨none, .not (.r 6), some (3, false)⟩, ⟨some 5, .pick (.r 3) (.c (.bool true)) (.r 7), none⟩])
  (.cond (.v 5) (.seq (.region false [] [⟨some 3, .mov (.c (.bool false)), none⟩, ⟨some 4, .mov (.c (.bool false)), none⟩])
  .ret) .skip))
  (.seq (.region true [(2, 0)] [⟨none, .load true 2 (.v 2), none⟩, ⟨none, .mov (.v 1), none⟩, ⟨none, .call false f_impl_maskOf [(.r 1)], none⟩, ⟨none, .call false f_impl_isSiphon [(.r 0), (.r 2)], none⟩, ⟨some 3, .mov (.r 3), none⟩, ⟨some 4, .mov (.c (.bool true)), none⟩])
  .ret))),
  [.v 3, .v 4]⟩
def ir_laws_has : IFun := ⟨[0, 1, 4, 6, 7, 8, 9, 10, 15],
  (.seq (.region false [] [⟨some 2, .mov (.c (.bool false)), none⟩])
  (.seq (.seq (.region false [] [⟨some 4, .mov (.v 0), none⟩, ⟨some 5, .len false (.v 4), none⟩, ⟨some 6, .mov (.c (.int .i64 0)), none⟩])
  (.block 0 (.loop [false, true, false, false, true, true, true, false, false] (.seq (.region false [] [⟨some 7, .bin false .lss (.v 6) (.v 5), none⟩])
  (.seq (.cond (.v 7) .skip (.exit 0))
  (.seq (.block 1 (.seq (.region false [] [⟨none, .iaddr 1 (.v 4) (.v 6), none⟩, ⟨none, .load false 1 (.r 0), none⟩, ⟨some 3, .mov (.r 1), none⟩])
  (.seq (.region false [] [⟨none, .mov (.v 3), none⟩, ⟨none, .mov (.v 1), none⟩, ⟨some 8, .bin false .eql (.r 0) (.r 1), none⟩])
  (.cond (.v 8) (.seq (.region false [] [⟨some 2, .mov (.c (.bool true)), none⟩])
  .ret) .skip))))
  (.region false [] [⟨none, .bin false .add (.v 6) (.c (.int .i64 1)), none⟩, ⟨some 6, .mov (.r 0), none⟩])))))))
  (.seq (.region false [] [⟨some 2, .mov (.c (.bool false)), none⟩])
  .ret))),
  [.v 2]⟩
def ir_laws_within : IFun := ⟨[0, 1, 4, 6, 7, 8, 9, 10, 16],
  (.seq (.region false [] [⟨some 2, .mov (.c (.bool false)), none⟩])
  (.seq (.seq (.region false [] [⟨some 4, .mov (.v 0), none⟩, ⟨some 5, .len false (.v 4), none⟩, ⟨some 6, .mov (.c (.int .i64 0)), none⟩])
  (.block 0 (.loop [false, true, false, false, true, true, true, false, false] (.seq (.region false [] [⟨some 7, .bin false .lss (.v 6) (.v 5), none⟩])
  (.seq (.cond (.v 7) .skip (.exit 0))
  (.seq (.block 1 (.seq (.region false [] [⟨none, .iaddr 1 (.v 4) (.v 6), none⟩, ⟨none, .load false 1 (.r 0), none⟩, ⟨some 3, .mov (.r 1), none⟩])
  (.seq (.region false [] [⟨none, .mov (.v 1), none⟩, ⟨none, .mov (.v 3), none⟩, ⟨none, .call false f_laws_has [(.r 0), (.r 1)], none⟩, ⟨some 8, .not (.r 2), none⟩])
  (.cond (.v 8) (.seq (.region false [] [⟨some 2, .mov (.c (.bool false)), none⟩])
  .ret) .skip))))
  (.region false [] [⟨none, .bin false .add (.v 6) (.c (.int .i64 1)), none⟩, ⟨some 6, .mov (.r 0), none⟩])))))))
  (.seq (.region false [] [⟨some 2, .mov (.c (.bool true)), none⟩])
  .ret))),
  [.v 2]⟩
def ir_laws_FnGuarded : IFun := ⟨[0, 1, 4, 5, 6, 7, 8, 9, 10, 11, 12, 13, 14, 15, 16, 18, 19, 20, 21, 22, 23, 24, 25, 26, 27, 28, 29, 32, 57, 67, 70, 85, 104, 112, 133, 134, 135, 136, 137, 157, 158, 159, 160, 161, 172],
  (.seq (.region false [] [⟨some 2, .mov (.c (.bool false)), none⟩])
  (.seq (.seq (.region false [] [⟨none, .mov (.v 0), none⟩, ⟨none, .mov (.v 1), none⟩, ⟨some 27, .call false f_laws_big [(.r 0), (.r 1)], none⟩])
  (.cond (.v 27) (.seq (.region false [] [⟨some 2, .mov (.c (.bool true)), none⟩])
  .ret) .skip))
  (.seq (.region false [] [⟨none, .mov (.v 0), none⟩, ⟨none, .call false f_spec_DrawIsGuarded [(.r 0)], none⟩, ⟨none, .mov (.r 1), none⟩, ⟨none, .extract (.r 2) 0, none⟩, ⟨none, .extract (.r 2) 1, none⟩, ⟨some 3, .alloc t_impl_Net [(.int .i64 0), (.nil false 3)], none⟩, ⟨none, .store 2 (.v 3) (.r 3), none⟩, ⟨some 4, .mov (.r 4), none⟩])
  (.seq (.region false [] [⟨none, .load true 2 (.v 3), none⟩, ⟨none, .mov (.v 4), none⟩, ⟨none, .call false f_impl_IsGuarded [(.r 0), (.r 1)], none⟩, ⟨none, .mov (.r 2), none⟩, ⟨none, .extract (.r 3) 0, none⟩, ⟨none, .extract (.r 3) 1, none⟩, ⟨some 5, .mov (.r 4), none⟩, ⟨some 6, .mov (.r 5), none⟩])
  (.seq (.region false [] [⟨none, .load true 2 (.v 3), none⟩, ⟨none, .mov (.v 4), none⟩, ⟨none, .call false f_spec_IsGuarded [(.r 0), (.r 1)], none⟩, ⟨none, .mov (.r 2), none⟩, ⟨none, .extract (.r 3) 0, none⟩, ⟨none, .extract (.r 3) 1, none⟩, ⟨some 7, .mov (.r 4), none⟩, ⟨some 8, .mov (.r 5), none⟩])
  (.seq (.seq (.region false [] [⟨none, .mov (.v 6), none⟩, ⟨none, .mov (.v 8), none⟩, ⟨none, .bin true .neq (.r 0) (.r 1), none⟩, ⟨none, .mov (.r 2), none⟩, ⟨none, .mov (.v 5), some (3, false)⟩, ⟨none, .mov (.v 7), some (3, false)⟩, ⟨none, .bin true .neq (.r 4) (.r 5), some (3, false)⟩, ⟨some 28, .pick (.r 3) (.c (.bool true)) (.r 6), none⟩])
  (.cond (.v 28) (.seq (.region false [] [⟨some 2, .mov (.c (.bool false)), none⟩])
  .ret) .skip))
  (.seq (.seq (.region false [] [⟨none, .mov (.v 6), none⟩, ⟨none, .mov (.r 0), none⟩, ⟨none, .mov (.v 5), some (1, true)⟩, ⟨none, .pick (.r 1) (.r 2) (.c (.bool false)), none⟩, ⟨none, .mov (.r 3), none⟩, ⟨none, .faddr 1 (.v 3), some (4, true)⟩, ⟨none, .load false 1 (.r 5), some (4, true)⟩, ⟨none, .len false (.r 6), some (4, true)⟩, ⟨none, .bin false .gtr (.r 7) (.c (.int .i64 0)), some (4, true)⟩, ⟨some 29, .pick (.r 4) (.r 8) (.c (.bool false)), none⟩])
  (.cond (.v 29) (.seq (.region false [] [⟨none, .mov (.v 4), none⟩, ⟨some 9, .mov (.r 0), none⟩])
  (.seq (.seq (.region false [] [⟨some 10, .mov (.c (.int .i64 0)), none⟩])
  (.block 0 (.loop [false, true, false, true, true, false, false, false, false, true, true, false, false, false, false, false, false, false, false, false, false, false, false, false, false, false, false, false, false, false, false, false, false, false, false, false, false, false, false, false, false, false, false, false, false] (.seq (.seq (.region false [] [⟨none, .mov (.v 10), none⟩, ⟨some 30, .bin false .lss (.r 0) (.c (.int .i64 12)), none⟩])
  (.cond (.v 30) .skip (.exit 0)))
  (.seq (.block 1 (.seq (.region false [] [⟨none, .load true 2 (.v 3), none⟩, ⟨none, .mov (.v 9), none⟩, ⟨none, .call false f_impl_Enabled [(.r 0), (.r 1)], none⟩, ⟨none, .mov (.r 2), none⟩, ⟨none, .extract (.r 3) 0, none⟩, ⟨none, .extract (.r 3) 1, none⟩, ⟨some 11, .mov (.r 4), none⟩, ⟨some 12, .mov (.r 5), none⟩])
  (.seq (.seq (.region false [] [⟨none, .mov (.v 12), none⟩, ⟨none, .not (.r 0), none⟩, ⟨none, .mov (.r 1), none⟩, ⟨none, .mov (.v 11), some (2, false)⟩, ⟨none, .len false (.r 3), some (2, false)⟩, ⟨none, .bin false .eql (.r 4) (.c (.int .i64 0)), some (2, false)⟩, ⟨some 31, .pick (.r 2) (.c (.bool true)) (.r 5), none⟩])
  (.cond (.v 31) (.seq (.region false [] [⟨some 2, .mov (.c (.bool false)), none⟩])
  .ret) .skip))
  (.seq (.region true [(8, 0)] [⟨none, .load true 2 (.v 3), none⟩, ⟨none, .mov (.v 9), none⟩, ⟨none, .mov (.v 11), none⟩, ⟨none, .mov (.v 1), none⟩, ⟨none, .mov (.v 10), none⟩, ⟨none, .bin false .add (.r 4) (.c (.int .i64 1)), none⟩, ⟨none, .mov (.v 11), none⟩, ⟨none, .len false (.r 6), none⟩, ⟨none, .call false f_laws_numberOf [(.r 3)], none⟩, ⟨none, .bin false .quo (.r 8) (.r 5), none⟩, ⟨none, .bin false .rem (.r 9) (.r 7), none⟩, ⟨none, .iaddr 1 (.r 2) (.r 10), none⟩, ⟨none, .load false 1 (.r 11), none⟩, ⟨none, .call false f_impl_Fire [(.r 0), (.r 1), (.r 12)], none⟩, ⟨none, .mov (.r 13), none⟩, ⟨none, .extract (.r 14) 0, none⟩, ⟨none, .extract (.r 14) 1, none⟩, ⟨some 13, .mov (.r 15), none⟩, ⟨some 14, .mov (.r 16), none⟩])
  (.seq (.seq (.region false [] [⟨none, .mov (.v 14), none⟩, ⟨some 32, .not (.r 0), none⟩])
  (.cond (.v 32) (.exit 0) .skip))
  (.region false [] [⟨none, .mov (.v 13), none⟩, ⟨some 9, .mov (.r 0), none⟩]))))))
  (.region false [] [⟨none, .mov (.v 10), none⟩, ⟨none, .bin false .add (.r 0) (.c (.int .i64 1)), none⟩, ⟨some 10, .mov (.r 1), none⟩]))))))
  (.seq (.region false [] [⟨none, .load true 2 (.v 3), none⟩, ⟨none, .mov (.v 4), none⟩, ⟨none, .call false f_impl_FirstDead [(.r 0), (.r 1), (.c (.int .i64 100))], none⟩, ⟨none, .mov (.r 2), none⟩, ⟨none, .extract (.r 3) 0, none⟩, ⟨none, .extract (.r 3) 1, none⟩, ⟨none, .mov (.r 4), none⟩, ⟨some 15, .mov (.r 5), none⟩])
  (.seq (.region false [] [⟨some 33, .mov (.v 15), none⟩])
  (.cond (.v 33) (.seq (.region false [] [⟨some 2, .mov (.c (.bool false)), none⟩])
  .ret) .skip))))) .skip))
  (.seq (.region false [] [⟨none, .mov (.v 1), none⟩, ⟨none, .call false f_spec_DrawSmallSiphons [(.r 0)], none⟩, ⟨some 16, .alloc t_impl_Net [(.int .i64 0), (.nil false 3)], none⟩, ⟨none, .store 2 (.v 16) (.r 1), none⟩])
  (.seq (.region false [] [⟨none, .load true 2 (.v 16), none⟩, ⟨none, .call false f_impl_SmallSiphons [(.r 0)], none⟩, ⟨none, .mov (.r 1), none⟩, ⟨none, .extract (.r 2) 0, none⟩, ⟨none, .extract (.r 2) 1, none⟩, ⟨some 17, .mov (.r 3), none⟩, ⟨some 18, .mov (.r 4), none⟩])
  (.seq (.region false [] [⟨none, .load true 2 (.v 16), none⟩, ⟨none, .call false f_spec_SmallSiphons [(.r 0)], none⟩, ⟨none, .mov (.r 1), none⟩, ⟨none, .extract (.r 2) 0, none⟩, ⟨none, .extract (.r 2) 1, none⟩, ⟨some 19, .mov (.r 3), none⟩, ⟨some 20, .mov (.r 4), none⟩])
  (.seq (.seq (.region false [] [⟨none, .mov (.v 18), none⟩, ⟨none, .mov (.v 20), none⟩, ⟨none, .bin true .neq (.r 0) (.r 1), none⟩, ⟨none, .mov (.r 2), none⟩, ⟨none, .mov (.v 17), some (3, false)⟩, ⟨none, .mov (.v 19), some (3, false)⟩, ⟨none, .call false f_laws_sameLists [(.r 4), (.r 5)], some (3, false)⟩, ⟨none, .not (.r 6), some (3, false)⟩, ⟨some 34, .pick (.r 3) (.c (.bool true)) (.r 7), none⟩])
  (.cond (.v 34) (.seq (.region false [] [⟨some 2, .mov (.c (.bool false)), none⟩])
  .ret) .skip))
  (.seq (.seq (.region false [] [⟨some 35, .mov (.v 17), none⟩, ⟨some 36, .len false (.v 35), none⟩, ⟨some 37, .mov (.c (.int .i64 0)), none⟩])
  (.block 2 (.loop [false, false, false, false, false, false, false, false, false, false, false, false, false, false, false, false, true, true, false, false, false, false, false, false, false, false, false, false, false, false, false, false, false, false, false, true, true, true, false, false, false, false, false, false, false] (.seq (.region false [] [⟨some 38, .bin false .lss (.v 37) (.v 36), none⟩])
  (.seq (.cond (.v 38) .skip (.exit 2))
  (.seq (.block 3 (.seq (.region false [] [⟨none, .mov (.v 37), none⟩, ⟨none, .iaddr 1 (.v 35) (.v 37), none⟩, ⟨none, .load false 1 (.r 1), none⟩, ⟨some 21, .mov (.r 0), none⟩, ⟨some 22, .mov (.r 2), none⟩])
  (.seq (.region false [] [⟨none, .load true 2 (.v 16), none⟩, ⟨none, .mov (.v 22), none⟩, ⟨none, .call false f_impl_IsSiphon [(.r 0), (.r 1)], none⟩, ⟨none, .mov (.r 2), none⟩, ⟨none, .extract (.r 3) 0, none⟩, ⟨none, .extract (.r 3) 1, none⟩, ⟨some 23, .mov (.r 4), none⟩, ⟨some 24, .mov (.r 5), none⟩])
  (.seq (.seq (.region false [] [⟨none, .mov (.v 24), none⟩, ⟨none, .not (.r 0), none⟩, ⟨none, .mov (.r 1), none⟩, ⟨none, .mov (.v 23), some (2, false)⟩, ⟨none, .not (.r 3), some (2, false)⟩, ⟨none, .pick (.r 2) (.c (.bool true)) (.r 4), none⟩, ⟨none, .mov (.r 5), none⟩, ⟨none, .mov (.v 22), some (6, false)⟩, ⟨none, .len false (.r 7), some (6, false)⟩, ⟨none, .bin false .eql (.r 8) (.c (.int .i64 0)), some (6, false)⟩, ⟨some 39, .pick (.r 6) (.c (.bool true)) (.r 9), none⟩])
  (.cond (.v 39) (.seq (.region false [] [⟨some 2, .mov (.c (.bool false)), none⟩])
  .ret) .skip))
  (.seq (.region false [] [⟨some 40, .mov (.v 17), none⟩, ⟨some 41, .len false (.v 40), none⟩, ⟨some 42, .mov (.c (.int .i64 0)), none⟩])
  (.block 4 (.loop [false, false, false, false, false, false, false, false, false, false, false, false, false, false, false, false, true, true, false, false, false, true, true, false, false, false, false, false, false, false, false, false, false, false, false, true, true, true, false, false, true, true, true, false, false] (.seq (.region false [] [⟨some 43, .bin false .lss (.v 42) (.v 41), none⟩])
  (.seq (.cond (.v 43) .skip (.exit 4))
  (.seq (.block 5 (.seq (.region false [] [⟨none, .mov (.v 42), none⟩, ⟨none, .iaddr 1 (.v 40) (.v 42), none⟩, ⟨none, .load false 1 (.r 1), none⟩, ⟨some 25, .mov (.r 0), none⟩, ⟨some 26, .mov (.r 2), none⟩])
  (.seq (.region false [] [⟨none, .mov (.v 21), none⟩, ⟨none, .mov (.v 25), none⟩, ⟨none, .bin false .neq (.r 0) (.r 1), none⟩, ⟨none, .mov (.r 2), none⟩, ⟨none, .mov (.v 26), some (3, true)⟩, ⟨none, .mov (.v 22), some (3, true)⟩, ⟨none, .call false f_laws_within [(.r 4), (.r 5)], some (3, true)⟩, ⟨some 44, .pick (.r 3) (.r 6) (.c (.bool false)), none⟩])
  (.cond (.v 44) (.seq (.region false [] [⟨some 2, .mov (.c (.bool false)), none⟩])
  .ret) .skip))))
  (.region false [] [⟨none, .bin false .add (.v 42) (.c (.int .i64 1)), none⟩, ⟨some 42, .mov (.r 0), none⟩])))))))))))
  (.region false [] [⟨none, .bin false .add (.v 37) (.c (.int .i64 1)), none⟩, ⟨some 37, .mov (.r 0), none⟩])))))))
  (.seq (.region false [] [⟨some 2, .mov (.c (.bool true)), none⟩])
  .ret))))))))))))),
  [.v 2]⟩
def tbl : List (FuncId × IFun) := [(f_laws_big, ir_laws_big), (f_spec_l1Cur_next, ir_spec_l1Cur_next), (f_spec_l1Cur_pick, ir_spec_l1Cur_pick), (f_spec_l1Cur_one, ir_spec_l1Cur_one), (f_spec_l1Put, ir_spec_l1Put), (f_spec_l1Cur_someOf, ir_spec_l1Cur_someOf), (f_spec_l1Cur_among, ir_spec_l1Cur_among), (f_spec_l1Cur_net, ir_spec_l1Cur_net), (f_spec_l1Most, ir_spec_l1Most), (f_spec_l1Least, ir_spec_l1Least), (f_spec_l1Cur_grow, ir_spec_l1Cur_grow), (f_spec_l1Cur_flow, ir_spec_l1Cur_flow), (f_spec_l1Cur_kept, ir_spec_l1Cur_kept), (f_spec_l1Cur_markOf, ir_spec_l1Cur_markOf), (f_spec_DrawIsGuarded, ir_spec_DrawIsGuarded), (f_impl_within, ir_impl_within), (f_impl_increasing, ir_impl_increasing), (f_impl_allWithin, ir_impl_allWithin), (f_impl_arePlaces, ir_impl_arePlaces), (f_impl_GoodNet_1, ir_impl_GoodNet_1), (f_slices_IndexFunc_sl_impl_Trans_impl_Trans, ir_slices_IndexFunc_sl_impl_Trans_impl_Trans), (f_slices_ContainsFunc_sl_impl_Trans_impl_Trans, ir_slices_ContainsFunc_sl_impl_Trans_impl_Trans), (f_impl_GoodNet, ir_impl_GoodNet), (f_impl_hasResets_1, ir_impl_hasResets_1), (f_impl_hasResets, ir_impl_hasResets), (f_impl_isPlain, ir_impl_isPlain), (f_impl_isSmall, ir_impl_isSmall), (f_impl_GoodMark, ir_impl_GoodMark), (f_impl_maskOf, ir_impl_maskOf), (f_impl_bigTrap, ir_impl_bigTrap), (f_impl_isSiphon, ir_impl_isSiphon), (f_impl_IsGuarded_1, ir_impl_IsGuarded_1), (f_impl_smallSets_1, ir_impl_smallSets_1), (f_slices_IndexFunc_sl_int_int, ir_slices_IndexFunc_sl_int_int), (f_slices_ContainsFunc_sl_int_int, ir_slices_ContainsFunc_sl_int_int), (f_impl_smallSets, ir_impl_smallSets), (f_impl_setOf, ir_impl_setOf), (f_impl_IsGuarded_2, ir_impl_IsGuarded_2), (f_impl_IsGuarded, ir_impl_IsGuarded), (f_spec_l1In, ir_spec_l1In), (f_spec_l1Places, ir_spec_l1Places), (f_spec_l1Rising, ir_spec_l1Rising), (f_spec_GoodNet, ir_spec_GoodNet), (f_spec_l2Resets, ir_spec_l2Resets), (f_spec_l7Plain, ir_spec_l7Plain), (f_spec_l1All, ir_spec_l1All), (f_spec_GoodMark, ir_spec_GoodMark), (f_spec_l1Set, ir_spec_l1Set), (f_spec_l1Has, ir_spec_l1Has), (f_spec_l2Meet, ir_spec_l2Meet), (f_spec_l8Siphon, ir_spec_l8Siphon), (f_spec_l8Small, ir_spec_l8Small), (f_spec_l1Own, ir_spec_l1Own), (f_spec_l8Trap, ir_spec_l8Trap), (f_spec_l8Without, ir_spec_l8Without), (f_spec_l8BigTrap, ir_spec_l8BigTrap), (f_spec_IsGuarded, ir_spec_IsGuarded), (f_impl_isMarked, ir_impl_isMarked), (f_impl_isEnabled_1, ir_impl_isEnabled_1), (f_impl_isEnabled, ir_impl_isEnabled), (f_impl_enabled, ir_impl_enabled), (f_impl_Enabled, ir_impl_Enabled), (f_laws_numberOf, ir_laws_numberOf), (f_impl_isTrans, ir_impl_isTrans), (f_impl_fired, ir_impl_fired), (f_impl_checkedMark, ir_impl_checkedMark), (f_impl_Fire, ir_impl_Fire), (f_slices_Equal_sl_int_int, ir_slices_Equal_sl_int_int), (f_impl_Space_find_1, ir_impl_Space_find_1), (f_slices_IndexFunc_sl_sl_int_sl_int, ir_slices_IndexFunc_sl_sl_int_sl_int), (f_impl_Space_find, ir_impl_Space_find), (f_impl_explore, ir_impl_explore), (f_impl_Explore, ir_impl_Explore), (f_impl_wholeSpace, ir_impl_wholeSpace), (f_impl_FirstDead, ir_impl_FirstDead), (f_spec_DrawSmallInvariants, ir_spec_DrawSmallInvariants), (f_spec_DrawSmallSiphons, ir_spec_DrawSmallSiphons), (f_impl_SmallSiphons_1, ir_impl_SmallSiphons_1), (f_impl_setsOf, ir_impl_setsOf), (f_impl_SmallSiphons, ir_impl_SmallSiphons), (f_spec_SmallSiphons, ir_spec_SmallSiphons), (f_laws_sameInts, ir_laws_sameInts), (f_laws_sameLists, ir_laws_sameLists), (f_impl_IsSiphon, ir_impl_IsSiphon), (f_laws_has, ir_laws_has), (f_laws_within, ir_laws_within), (f_laws_FnGuarded, ir_laws_FnGuarded)]
def F (f : FuncId) : Option IFun := (tbl.find? fun p => p.1 == f).map (·.2)
def exts : List (FuncId × (List PV → Option PV)) := [(f_slices_Clone_sl_int_int, ext_slices_Clone_sl_int_int)]
def ext (f : FuncId) : Option (List PV → Option PV) := (exts.find? fun p => p.1 == f).map (·.2)
noncomputable def C : Orc := lim F ext
theorem E_laws_big {args : List PV} {M : List Blk} {P : PV × List Blk → Prop} (h : W C M.length ir_laws_big.body ⟨start ir_laws_big args, M⟩ (Le' M.length ir_laws_big.results P)) : Lw (C f_laws_big args M) P := call_ex rfl rfl h
theorem C_laws_big {args : List PV} {M : List Blk} {r : PV × List Blk} (h : W C M.length ir_laws_big.body ⟨start ir_laws_big args, M⟩ (Lv M.length ir_laws_big.results r)) : C f_laws_big args M = some r := call_of rfl rfl h
theorem E_spec_l1Cur_next {args : List PV} {M : List Blk} {P : PV × List Blk → Prop} (h : W C M.length ir_spec_l1Cur_next.body ⟨start ir_spec_l1Cur_next args, M⟩ (Le' M.length ir_spec_l1Cur_next.results P)) : Lw (C f_spec_l1Cur_next args M) P := call_ex rfl rfl h
theorem C_spec_l1Cur_next {args : List PV} {M : List Blk} {r : PV × List Blk} (h : W C M.length ir_spec_l1Cur_next.body ⟨start ir_spec_l1Cur_next args, M⟩ (Lv M.length ir_spec_l1Cur_next.results r)) : C f_spec_l1Cur_next args M = some r := call_of rfl rfl h
theorem E_spec_l1Cur_pick {args : List PV} {M : List Blk} {P : PV × List Blk → Prop} (h : W C M.length ir_spec_l1Cur_pick.body ⟨start ir_spec_l1Cur_pick args, M⟩ (Le' M.length ir_spec_l1Cur_pick.results P)) : Lw (C f_spec_l1Cur_pick args M) P := call_ex rfl rfl h
theorem C_spec_l1Cur_pick {args : List PV} {M : List Blk} {r : PV × List Blk} (h : W C M.length ir_spec_l1Cur_pick.body ⟨start ir_spec_l1Cur_pick args, M⟩ (Lv M.length ir_spec_l1Cur_pick.results r)) : C f_spec_l1Cur_pick args M = some r := call_of rfl rfl h
theorem E_spec_l1Cur_one {args : List PV} {M : List Blk} {P : PV × List Blk → Prop} (h : W C M.length ir_spec_l1Cur_one.body ⟨start ir_spec_l1Cur_one args, M⟩ (Le' M.length ir_spec_l1Cur_one.results P)) : Lw (C f_spec_l1Cur_one args M) P := call_ex rfl rfl h
theorem C_spec_l1Cur_one {args : List PV} {M : List Blk} {r : PV × List Blk} (h : W C M.length ir_spec_l1Cur_one.body ⟨start ir_spec_l1Cur_one args, M⟩ (Lv M.length ir_spec_l1Cur_one.results r)) : C f_spec_l1Cur_one args M = some r := call_of rfl rfl h
theorem E_spec_l1Put {args : List PV} {M : List Blk} {P : PV × List Blk → Prop} (h : W C M.length ir_spec_l1Put.body ⟨start ir_spec_l1Put args, M⟩ (Le' M.length ir_spec_l1Put.results P)) : Lw (C f_spec_l1Put args M) P := call_ex rfl rfl h
theorem C_spec_l1Put {args : List PV} {M : List Blk} {r : PV × List Blk} (h : W C M.length ir_spec_l1Put.body ⟨start ir_spec_l1Put args, M⟩ (Lv M.length ir_spec_l1Put.results r)) : C f_spec_l1Put args M = some r := call_of rfl rfl h
theorem E_spec_l1Cur_someOf {args : List PV} {M : List Blk} {P : PV × List Blk → Prop} (h : W C M.length ir_spec_l1Cur_someOf.body ⟨start ir_spec_l1Cur_someOf args, M⟩ (Le' M.length ir_spec_l1Cur_someOf.results P)) : Lw (C f_spec_l1Cur_someOf args M) P := call_ex rfl rfl h
theorem C_spec_l1Cur_someOf {args : List PV} {M : List Blk} {r : PV × List Blk} (h : W C M.length ir_spec_l1Cur_someOf.body ⟨start ir_spec_l1Cur_someOf args, M⟩ (Lv M.length ir_spec_l1Cur_someOf.results r)) : C f_spec_l1Cur_someOf args M = some r := call_of rfl rfl h
theorem E_spec_l1Cur_among {args : List PV} {M : List Blk} {P : PV × List Blk → Prop} (h : W C M.length ir_spec_l1Cur_among.body ⟨start ir_spec_l1Cur_among args, M⟩ (Le' M.length ir_spec_l1Cur_among.results P)) : Lw (C f_spec_l1Cur_among args M) P := call_ex rfl rfl h
theorem C_spec_l1Cur_among {args : List PV} {M : List Blk} {r : PV × List Blk} (h : W C M.length ir_spec_l1Cur_among.body ⟨start ir_spec_l1Cur_among args, M⟩ (Lv M.length ir_spec_l1Cur_among.results r)) : C f_spec_l1Cur_among args M = some r := call_of rfl rfl h
theorem E_spec_l1Cur_net {args : List PV} {M : List Blk} {P : PV × List Blk → Prop} (h : W C M.length ir_spec_l1Cur_net.body ⟨start ir_spec_l1Cur_net args, M⟩ (Le' M.length ir_spec_l1Cur_net.results P)) : Lw (C f_spec_l1Cur_net args M) P := call_ex rfl rfl h
theorem C_spec_l1Cur_net {args : List PV} {M : List Blk} {r : PV × List Blk} (h : W C M.length ir_spec_l1Cur_net.body ⟨start ir_spec_l1Cur_net args, M⟩ (Lv M.length ir_spec_l1Cur_net.results r)) : C f_spec_l1Cur_net args M = some r := call_of rfl rfl h
theorem E_spec_l1Most {args : List PV} {M : List Blk} {P : PV × List Blk → Prop} (h : W C M.length ir_spec_l1Most.body ⟨start ir_spec_l1Most args, M⟩ (Le' M.length ir_spec_l1Most.results P)) : Lw (C f_spec_l1Most args M) P := call_ex rfl rfl h
theorem C_spec_l1Most {args : List PV} {M : List Blk} {r : PV × List Blk} (h : W C M.length ir_spec_l1Most.body ⟨start ir_spec_l1Most args, M⟩ (Lv M.length ir_spec_l1Most.results r)) : C f_spec_l1Most args M = some r := call_of rfl rfl h
theorem E_spec_l1Least {args : List PV} {M : List Blk} {P : PV × List Blk → Prop} (h : W C M.length ir_spec_l1Least.body ⟨start ir_spec_l1Least args, M⟩ (Le' M.length ir_spec_l1Least.results P)) : Lw (C f_spec_l1Least args M) P := call_ex rfl rfl h
theorem C_spec_l1Least {args : List PV} {M : List Blk} {r : PV × List Blk} (h : W C M.length ir_spec_l1Least.body ⟨start ir_spec_l1Least args, M⟩ (Lv M.length ir_spec_l1Least.results r)) : C f_spec_l1Least args M = some r := call_of rfl rfl h
theorem E_spec_l1Cur_grow {args : List PV} {M : List Blk} {P : PV × List Blk → Prop} (h : W C M.length ir_spec_l1Cur_grow.body ⟨start ir_spec_l1Cur_grow args, M⟩ (Le' M.length ir_spec_l1Cur_grow.results P)) : Lw (C f_spec_l1Cur_grow args M) P := call_ex rfl rfl h
theorem C_spec_l1Cur_grow {args : List PV} {M : List Blk} {r : PV × List Blk} (h : W C M.length ir_spec_l1Cur_grow.body ⟨start ir_spec_l1Cur_grow args, M⟩ (Lv M.length ir_spec_l1Cur_grow.results r)) : C f_spec_l1Cur_grow args M = some r := call_of rfl rfl h
theorem E_spec_l1Cur_flow {args : List PV} {M : List Blk} {P : PV × List Blk → Prop} (h : W C M.length ir_spec_l1Cur_flow.body ⟨start ir_spec_l1Cur_flow args, M⟩ (Le' M.length ir_spec_l1Cur_flow.results P)) : Lw (C f_spec_l1Cur_flow args M) P := call_ex rfl rfl h
theorem C_spec_l1Cur_flow {args : List PV} {M : List Blk} {r : PV × List Blk} (h : W C M.length ir_spec_l1Cur_flow.body ⟨start ir_spec_l1Cur_flow args, M⟩ (Lv M.length ir_spec_l1Cur_flow.results r)) : C f_spec_l1Cur_flow args M = some r := call_of rfl rfl h
theorem E_spec_l1Cur_kept {args : List PV} {M : List Blk} {P : PV × List Blk → Prop} (h : W C M.length ir_spec_l1Cur_kept.body ⟨start ir_spec_l1Cur_kept args, M⟩ (Le' M.length ir_spec_l1Cur_kept.results P)) : Lw (C f_spec_l1Cur_kept args M) P := call_ex rfl rfl h
theorem C_spec_l1Cur_kept {args : List PV} {M : List Blk} {r : PV × List Blk} (h : W C M.length ir_spec_l1Cur_kept.body ⟨start ir_spec_l1Cur_kept args, M⟩ (Lv M.length ir_spec_l1Cur_kept.results r)) : C f_spec_l1Cur_kept args M = some r := call_of rfl rfl h
theorem E_spec_l1Cur_markOf {args : List PV} {M : List Blk} {P : PV × List Blk → Prop} (h : W C M.length ir_spec_l1Cur_markOf.body ⟨start ir_spec_l1Cur_markOf args, M⟩ (Le' M.length ir_spec_l1Cur_markOf.results P)) : Lw (C f_spec_l1Cur_markOf args M) P := call_ex rfl rfl h
theorem C_spec_l1Cur_markOf {args : List PV} {M : List Blk} {r : PV × List Blk} (h : W C M.length ir_spec_l1Cur_markOf.body ⟨start ir_spec_l1Cur_markOf args, M⟩ (Lv M.length ir_spec_l1Cur_markOf.results r)) : C f_spec_l1Cur_markOf args M = some r := call_of rfl rfl h
theorem E_spec_DrawIsGuarded {args : List PV} {M : List Blk} {P : PV × List Blk → Prop} (h : W C M.length ir_spec_DrawIsGuarded.body ⟨start ir_spec_DrawIsGuarded args, M⟩ (Le' M.length ir_spec_DrawIsGuarded.results P)) : Lw (C f_spec_DrawIsGuarded args M) P := call_ex rfl rfl h
theorem C_spec_DrawIsGuarded {args : List PV} {M : List Blk} {r : PV × List Blk} (h : W C M.length ir_spec_DrawIsGuarded.body ⟨start ir_spec_DrawIsGuarded args, M⟩ (Lv M.length ir_spec_DrawIsGuarded.results r)) : C f_spec_DrawIsGuarded args M = some r := call_of rfl rfl h
theorem E_impl_within {args : List PV} {M : List Blk} {P : PV × List Blk → Prop} (h : W C M.length ir_impl_within.body ⟨start ir_impl_within args, M⟩ (Le' M.length ir_impl_within.results P)) : Lw (C f_impl_within args M) P := call_ex rfl rfl h
theorem C_impl_within {args : List PV} {M : List Blk} {r : PV × List Blk} (h : W C M.length ir_impl_within.body ⟨start ir_impl_within args, M⟩ (Lv M.length ir_impl_within.results r)) : C f_impl_within args M = some r := call_of rfl rfl h
theorem E_impl_increasing {args : List PV} {M : List Blk} {P : PV × List Blk → Prop} (h : W C M.length ir_impl_increasing.body ⟨start ir_impl_increasing args, M⟩ (Le' M.length ir_impl_increasing.results P)) : Lw (C f_impl_increasing args M) P := call_ex rfl rfl h
theorem C_impl_increasing {args : List PV} {M : List Blk} {r : PV × List Blk} (h : W C M.length ir_impl_increasing.body ⟨start ir_impl_increasing args, M⟩ (Lv M.length ir_impl_increasing.results r)) : C f_impl_increasing args M = some r := call_of rfl rfl h
theorem E_impl_allWithin {args : List PV} {M : List Blk} {P : PV × List Blk → Prop} (h : W C M.length ir_impl_allWithin.body ⟨start ir_impl_allWithin args, M⟩ (Le' M.length ir_impl_allWithin.results P)) : Lw (C f_impl_allWithin args M) P := call_ex rfl rfl h
theorem C_impl_allWithin {args : List PV} {M : List Blk} {r : PV × List Blk} (h : W C M.length ir_impl_allWithin.body ⟨start ir_impl_allWithin args, M⟩ (Lv M.length ir_impl_allWithin.results r)) : C f_impl_allWithin args M = some r := call_of rfl rfl h
theorem E_impl_arePlaces {args : List PV} {M : List Blk} {P : PV × List Blk → Prop} (h : W C M.length ir_impl_arePlaces.body ⟨start ir_impl_arePlaces args, M⟩ (Le' M.length ir_impl_arePlaces.results P)) : Lw (C f_impl_arePlaces args M) P := call_ex rfl rfl h
theorem C_impl_arePlaces {args : List PV} {M : List Blk} {r : PV × List Blk} (h : W C M.length ir_impl_arePlaces.body ⟨start ir_impl_arePlaces args, M⟩ (Lv M.length ir_impl_arePlaces.results r)) : C f_impl_arePlaces args M = some r := call_of rfl rfl h
theorem E_impl_GoodNet_1 {args : List PV} {M : List Blk} {P : PV × List Blk → Prop} (h : W C M.length ir_impl_GoodNet_1.body ⟨start ir_impl_GoodNet_1 args, M⟩ (Le' M.length ir_impl_GoodNet_1.results P)) : Lw (C f_impl_GoodNet_1 args M) P := call_ex rfl rfl h
theorem C_impl_GoodNet_1 {args : List PV} {M : List Blk} {r : PV × List Blk} (h : W C M.length ir_impl_GoodNet_1.body ⟨start ir_impl_GoodNet_1 args, M⟩ (Lv M.length ir_impl_GoodNet_1.results r)) : C f_impl_GoodNet_1 args M = some r := call_of rfl rfl h
theorem E_slices_IndexFunc_sl_impl_Trans_impl_Trans {args : List PV} {M : List Blk} {P : PV × List Blk → Prop} (h : W C M.length ir_slices_IndexFunc_sl_impl_Trans_impl_Trans.body ⟨start ir_slices_IndexFunc_sl_impl_Trans_impl_Trans args, M⟩ (Le' M.length ir_slices_IndexFunc_sl_impl_Trans_impl_Trans.results P)) : Lw (C f_slices_IndexFunc_sl_impl_Trans_impl_Trans args M) P := call_ex rfl rfl h
theorem C_slices_IndexFunc_sl_impl_Trans_impl_Trans {args : List PV} {M : List Blk} {r : PV × List Blk} (h : W C M.length ir_slices_IndexFunc_sl_impl_Trans_impl_Trans.body ⟨start ir_slices_IndexFunc_sl_impl_Trans_impl_Trans args, M⟩ (Lv M.length ir_slices_IndexFunc_sl_impl_Trans_impl_Trans.results r)) : C f_slices_IndexFunc_sl_impl_Trans_impl_Trans args M = some r := call_of rfl rfl h
theorem E_slices_ContainsFunc_sl_impl_Trans_impl_Trans {args : List PV} {M : List Blk} {P : PV × List Blk → Prop} (h : W C M.length ir_slices_ContainsFunc_sl_impl_Trans_impl_Trans.body ⟨start ir_slices_ContainsFunc_sl_impl_Trans_impl_Trans args, M⟩ (Le' M.length ir_slices_ContainsFunc_sl_impl_Trans_impl_Trans.results P)) : Lw (C f_slices_ContainsFunc_sl_impl_Trans_impl_Trans args M) P := call_ex rfl rfl h
theorem C_slices_ContainsFunc_sl_impl_Trans_impl_Trans {args : List PV} {M : List Blk} {r : PV × List Blk} (h : W C M.length ir_slices_ContainsFunc_sl_impl_Trans_impl_Trans.body ⟨start ir_slices_ContainsFunc_sl_impl_Trans_impl_Trans args, M⟩ (Lv M.length ir_slices_ContainsFunc_sl_impl_Trans_impl_Trans.results r)) : C f_slices_ContainsFunc_sl_impl_Trans_impl_Trans args M = some r := call_of rfl rfl h
theorem E_impl_GoodNet {args : List PV} {M : List Blk} {P : PV × List Blk → Prop} (h : W C M.length ir_impl_GoodNet.body ⟨start ir_impl_GoodNet args, M⟩ (Le' M.length ir_impl_GoodNet.results P)) : Lw (C f_impl_GoodNet args M) P := call_ex rfl rfl h
theorem C_impl_GoodNet {args : List PV} {M : List Blk} {r : PV × List Blk} (h : W C M.length ir_impl_GoodNet.body ⟨start ir_impl_GoodNet args, M⟩ (Lv M.length ir_impl_GoodNet.results r)) : C f_impl_GoodNet args M = some r := call_of rfl rfl h
theorem E_impl_hasResets_1 {args : List PV} {M : List Blk} {P : PV × List Blk → Prop} (h : W C M.length ir_impl_hasResets_1.body ⟨start ir_impl_hasResets_1 args, M⟩ (Le' M.length ir_impl_hasResets_1.results P)) : Lw (C f_impl_hasResets_1 args M) P := call_ex rfl rfl h
theorem C_impl_hasResets_1 {args : List PV} {M : List Blk} {r : PV × List Blk} (h : W C M.length ir_impl_hasResets_1.body ⟨start ir_impl_hasResets_1 args, M⟩ (Lv M.length ir_impl_hasResets_1.results r)) : C f_impl_hasResets_1 args M = some r := call_of rfl rfl h
theorem E_impl_hasResets {args : List PV} {M : List Blk} {P : PV × List Blk → Prop} (h : W C M.length ir_impl_hasResets.body ⟨start ir_impl_hasResets args, M⟩ (Le' M.length ir_impl_hasResets.results P)) : Lw (C f_impl_hasResets args M) P := call_ex rfl rfl h
theorem C_impl_hasResets {args : List PV} {M : List Blk} {r : PV × List Blk} (h : W C M.length ir_impl_hasResets.body ⟨start ir_impl_hasResets args, M⟩ (Lv M.length ir_impl_hasResets.results r)) : C f_impl_hasResets args M = some r := call_of rfl rfl h
theorem E_impl_isPlain {args : List PV} {M : List Blk} {P : PV × List Blk → Prop} (h : W C M.length ir_impl_isPlain.body ⟨start ir_impl_isPlain args, M⟩ (Le' M.length ir_impl_isPlain.results P)) : Lw (C f_impl_isPlain args M) P := call_ex rfl rfl h
theorem C_impl_isPlain {args : List PV} {M : List Blk} {r : PV × List Blk} (h : W C M.length ir_impl_isPlain.body ⟨start ir_impl_isPlain args, M⟩ (Lv M.length ir_impl_isPlain.results r)) : C f_impl_isPlain args M = some r := call_of rfl rfl h
theorem E_impl_isSmall {args : List PV} {M : List Blk} {P : PV × List Blk → Prop} (h : W C M.length ir_impl_isSmall.body ⟨start ir_impl_isSmall args, M⟩ (Le' M.length ir_impl_isSmall.results P)) : Lw (C f_impl_isSmall args M) P := call_ex rfl rfl h
theorem C_impl_isSmall {args : List PV} {M : List Blk} {r : PV × List Blk} (h : W C M.length ir_impl_isSmall.body ⟨start ir_impl_isSmall args, M⟩ (Lv M.length ir_impl_isSmall.results r)) : C f_impl_isSmall args M = some r := call_of rfl rfl h
theorem E_impl_GoodMark {args : List PV} {M : List Blk} {P : PV × List Blk → Prop} (h : W C M.length ir_impl_GoodMark.body ⟨start ir_impl_GoodMark args, M⟩ (Le' M.length ir_impl_GoodMark.results P)) : Lw (C f_impl_GoodMark args M) P := call_ex rfl rfl h
theorem C_impl_GoodMark {args : List PV} {M : List Blk} {r : PV × List Blk} (h : W C M.length ir_impl_GoodMark.body ⟨start ir_impl_GoodMark args, M⟩ (Lv M.length ir_impl_GoodMark.results r)) : C f_impl_GoodMark args M = some r := call_of rfl rfl h
theorem E_impl_maskOf {args : List PV} {M : List Blk} {P : PV × List Blk → Prop} (h : W C M.length ir_impl_maskOf.body ⟨start ir_impl_maskOf args, M⟩ (Le' M.length ir_impl_maskOf.results P)) : Lw (C f_impl_maskOf args M) P := call_ex rfl rfl h
theorem C_impl_maskOf {args : List PV} {M : List Blk} {r : PV × List Blk} (h : W C M.length ir_impl_maskOf.body ⟨start ir_impl_maskOf args, M⟩ (Lv M.length ir_impl_maskOf.results r)) : C f_impl_maskOf args M = some r := call_of rfl rfl h
theorem E_impl_bigTrap {args : List PV} {M : List Blk} {P : PV × List Blk → Prop} (h : W C M.length ir_impl_bigTrap.body ⟨start ir_impl_bigTrap args, M⟩ (Le' M.length ir_impl_bigTrap.results P)) : Lw (C f_impl_bigTrap args M) P := call_ex rfl rfl h
theorem C_impl_bigTrap {args : List PV} {M : List Blk} {r : PV × List Blk} (h : W C M.length ir_impl_bigTrap.body ⟨start ir_impl_bigTrap args, M⟩ (Lv M.length ir_impl_bigTrap.results r)) : C f_impl_bigTrap args M = some r := call_of rfl rfl h
theorem E_impl_isSiphon {args : List PV} {M : List Blk} {P : PV × List Blk → Prop} (h : W C M.length ir_impl_isSiphon.body ⟨start ir_impl_isSiphon args, M⟩ (Le' M.length ir_impl_isSiphon.results P)) : Lw (C f_impl_isSiphon args M) P := call_ex rfl rfl h
theorem C_impl_isSiphon {args : List PV} {M : List Blk} {r : PV × List Blk} (h : W C M.length ir_impl_isSiphon.body ⟨start ir_impl_isSiphon args, M⟩ (Lv M.length ir_impl_isSiphon.results r)) : C f_impl_isSiphon args M = some r := call_of rfl rfl h
theorem E_impl_IsGuarded_1 {args : List PV} {M : List Blk} {P : PV × List Blk → Prop} (h : W C M.length ir_impl_IsGuarded_1.body ⟨start ir_impl_IsGuarded_1 args, M⟩ (Le' M.length ir_impl_IsGuarded_1.results P)) : Lw (C f_impl_IsGuarded_1 args M) P := call_ex rfl rfl h
theorem C_impl_IsGuarded_1 {args : List PV} {M : List Blk} {r : PV × List Blk} (h : W C M.length ir_impl_IsGuarded_1.body ⟨start ir_impl_IsGuarded_1 args, M⟩ (Lv M.length ir_impl_IsGuarded_1.results r)) : C f_impl_IsGuarded_1 args M = some r := call_of rfl rfl h
theorem E_impl_smallSets_1 {args : List PV} {M : List Blk} {P : PV × List Blk → Prop} (h : W C M.length ir_impl_smallSets_1.body ⟨start ir_impl_smallSets_1 args, M⟩ (Le' M.length ir_impl_smallSets_1.results P)) : Lw (C f_impl_smallSets_1 args M) P := call_ex rfl rfl h
theorem C_impl_smallSets_1 {args : List PV} {M : List Blk} {r : PV × List Blk} (h : W C M.length ir_impl_smallSets_1.body ⟨start ir_impl_smallSets_1 args, M⟩ (Lv M.length ir_impl_smallSets_1.results r)) : C f_impl_smallSets_1 args M = some r := call_of rfl rfl h
theorem E_slices_IndexFunc_sl_int_int {args : List PV} {M : List Blk} {P : PV × List Blk → Prop} (h : W C M.length ir_slices_IndexFunc_sl_int_int.body ⟨start ir_slices_IndexFunc_sl_int_int args, M⟩ (Le' M.length ir_slices_IndexFunc_sl_int_int.results P)) : Lw (C f_slices_IndexFunc_sl_int_int args M) P := call_ex rfl rfl h
theorem C_slices_IndexFunc_sl_int_int {args : List PV} {M : List Blk} {r : PV × List Blk} (h : W C M.length ir_slices_IndexFunc_sl_int_int.body ⟨start ir_slices_IndexFunc_sl_int_int args, M⟩ (Lv M.length ir_slices_IndexFunc_sl_int_int.results r)) : C f_slices_IndexFunc_sl_int_int args M = some r := call_of rfl rfl h
theorem E_slices_ContainsFunc_sl_int_int {args : List PV} {M : List Blk} {P : PV × List Blk → Prop} (h : W C M.length ir_slices_ContainsFunc_sl_int_int.body ⟨start ir_slices_ContainsFunc_sl_int_int args, M⟩ (Le' M.length ir_slices_ContainsFunc_sl_int_int.results P)) : Lw (C f_slices_ContainsFunc_sl_int_int args M) P := call_ex rfl rfl h
theorem C_slices_ContainsFunc_sl_int_int {args : List PV} {M : List Blk} {r : PV × List Blk} (h : W C M.length ir_slices_ContainsFunc_sl_int_int.body ⟨start ir_slices_ContainsFunc_sl_int_int args, M⟩ (Lv M.length ir_slices_ContainsFunc_sl_int_int.results r)) : C f_slices_ContainsFunc_sl_int_int args M = some r := call_of rfl rfl h
theorem E_impl_smallSets {args : List PV} {M : List Blk} {P : PV × List Blk → Prop} (h : W C M.length ir_impl_smallSets.body ⟨start ir_impl_smallSets args, M⟩ (Le' M.length ir_impl_smallSets.results P)) : Lw (C f_impl_smallSets args M) P := call_ex rfl rfl h
theorem C_impl_smallSets {args : List PV} {M : List Blk} {r : PV × List Blk} (h : W C M.length ir_impl_smallSets.body ⟨start ir_impl_smallSets args, M⟩ (Lv M.length ir_impl_smallSets.results r)) : C f_impl_smallSets args M = some r := call_of rfl rfl h
theorem E_impl_setOf {args : List PV} {M : List Blk} {P : PV × List Blk → Prop} (h : W C M.length ir_impl_setOf.body ⟨start ir_impl_setOf args, M⟩ (Le' M.length ir_impl_setOf.results P)) : Lw (C f_impl_setOf args M) P := call_ex rfl rfl h
theorem C_impl_setOf {args : List PV} {M : List Blk} {r : PV × List Blk} (h : W C M.length ir_impl_setOf.body ⟨start ir_impl_setOf args, M⟩ (Lv M.length ir_impl_setOf.results r)) : C f_impl_setOf args M = some r := call_of rfl rfl h
theorem E_impl_IsGuarded_2 {args : List PV} {M : List Blk} {P : PV × List Blk → Prop} (h : W C M.length ir_impl_IsGuarded_2.body ⟨start ir_impl_IsGuarded_2 args, M⟩ (Le' M.length ir_impl_IsGuarded_2.results P)) : Lw (C f_impl_IsGuarded_2 args M) P := call_ex rfl rfl h
theorem C_impl_IsGuarded_2 {args : List PV} {M : List Blk} {r : PV × List Blk} (h : W C M.length ir_impl_IsGuarded_2.body ⟨start ir_impl_IsGuarded_2 args, M⟩ (Lv M.length ir_impl_IsGuarded_2.results r)) : C f_impl_IsGuarded_2 args M = some r := call_of rfl rfl h
theorem E_impl_IsGuarded {args : List PV} {M : List Blk} {P : PV × List Blk → Prop} (h : W C M.length ir_impl_IsGuarded.body ⟨start ir_impl_IsGuarded args, M⟩ (Le' M.length ir_impl_IsGuarded.results P)) : Lw (C f_impl_IsGuarded args M) P := call_ex rfl rfl h
theorem C_impl_IsGuarded {args : List PV} {M : List Blk} {r : PV × List Blk} (h : W C M.length ir_impl_IsGuarded.body ⟨start ir_impl_IsGuarded args, M⟩ (Lv M.length ir_impl_IsGuarded.results r)) : C f_impl_IsGuarded args M = some r := call_of rfl rfl h
theorem E_spec_l1In {args : List PV} {M : List Blk} {P : PV × List Blk → Prop} (h : W C M.length ir_spec_l1In.body ⟨start ir_spec_l1In args, M⟩ (Le' M.length ir_spec_l1In.results P)) : Lw (C f_spec_l1In args M) P := call_ex rfl rfl h
theorem C_spec_l1In {args : List PV} {M : List Blk} {r : PV × List Blk} (h : W C M.length ir_spec_l1In.body ⟨start ir_spec_l1In args, M⟩ (Lv M.length ir_spec_l1In.results r)) : C f_spec_l1In args M = some r := call_of rfl rfl h
theorem E_spec_l1Places {args : List PV} {M : List Blk} {P : PV × List Blk → Prop} (h : W C M.length ir_spec_l1Places.body ⟨start ir_spec_l1Places args, M⟩ (Le' M.length ir_spec_l1Places.results P)) : Lw (C f_spec_l1Places args M) P := call_ex rfl rfl h
theorem C_spec_l1Places {args : List PV} {M : List Blk} {r : PV × List Blk} (h : W C M.length ir_spec_l1Places.body ⟨start ir_spec_l1Places args, M⟩ (Lv M.length ir_spec_l1Places.results r)) : C f_spec_l1Places args M = some r := call_of rfl rfl h
theorem E_spec_l1Rising {args : List PV} {M : List Blk} {P : PV × List Blk → Prop} (h : W C M.length ir_spec_l1Rising.body ⟨start ir_spec_l1Rising args, M⟩ (Le' M.length ir_spec_l1Rising.results P)) : Lw (C f_spec_l1Rising args M) P := call_ex rfl rfl h
theorem C_spec_l1Rising {args : List PV} {M : List Blk} {r : PV × List Blk} (h : W C M.length ir_spec_l1Rising.body ⟨start ir_spec_l1Rising args, M⟩ (Lv M.length ir_spec_l1Rising.results r)) : C f_spec_l1Rising args M = some r := call_of rfl rfl h
theorem E_spec_GoodNet {args : List PV} {M : List Blk} {P : PV × List Blk → Prop} (h : W C M.length ir_spec_GoodNet.body ⟨start ir_spec_GoodNet args, M⟩ (Le' M.length ir_spec_GoodNet.results P)) : Lw (C f_spec_GoodNet args M) P := call_ex rfl rfl h
theorem C_spec_GoodNet {args : List PV} {M : List Blk} {r : PV × List Blk} (h : W C M.length ir_spec_GoodNet.body ⟨start ir_spec_GoodNet args, M⟩ (Lv M.length ir_spec_GoodNet.results r)) : C f_spec_GoodNet args M = some r := call_of rfl rfl h
theorem E_spec_l2Resets {args : List PV} {M : List Blk} {P : PV × List Blk → Prop} (h : W C M.length ir_spec_l2Resets.body ⟨start ir_spec_l2Resets args, M⟩ (Le' M.length ir_spec_l2Resets.results P)) : Lw (C f_spec_l2Resets args M) P := call_ex rfl rfl h
theorem C_spec_l2Resets {args : List PV} {M : List Blk} {r : PV × List Blk} (h : W C M.length ir_spec_l2Resets.body ⟨start ir_spec_l2Resets args, M⟩ (Lv M.length ir_spec_l2Resets.results r)) : C f_spec_l2Resets args M = some r := call_of rfl rfl h
theorem E_spec_l7Plain {args : List PV} {M : List Blk} {P : PV × List Blk → Prop} (h : W C M.length ir_spec_l7Plain.body ⟨start ir_spec_l7Plain args, M⟩ (Le' M.length ir_spec_l7Plain.results P)) : Lw (C f_spec_l7Plain args M) P := call_ex rfl rfl h
theorem C_spec_l7Plain {args : List PV} {M : List Blk} {r : PV × List Blk} (h : W C M.length ir_spec_l7Plain.body ⟨start ir_spec_l7Plain args, M⟩ (Lv M.length ir_spec_l7Plain.results r)) : C f_spec_l7Plain args M = some r := call_of rfl rfl h
theorem E_spec_l1All {args : List PV} {M : List Blk} {P : PV × List Blk → Prop} (h : W C M.length ir_spec_l1All.body ⟨start ir_spec_l1All args, M⟩ (Le' M.length ir_spec_l1All.results P)) : Lw (C f_spec_l1All args M) P := call_ex rfl rfl h
theorem C_spec_l1All {args : List PV} {M : List Blk} {r : PV × List Blk} (h : W C M.length ir_spec_l1All.body ⟨start ir_spec_l1All args, M⟩ (Lv M.length ir_spec_l1All.results r)) : C f_spec_l1All args M = some r := call_of rfl rfl h
theorem E_spec_GoodMark {args : List PV} {M : List Blk} {P : PV × List Blk → Prop} (h : W C M.length ir_spec_GoodMark.body ⟨start ir_spec_GoodMark args, M⟩ (Le' M.length ir_spec_GoodMark.results P)) : Lw (C f_spec_GoodMark args M) P := call_ex rfl rfl h
theorem C_spec_GoodMark {args : List PV} {M : List Blk} {r : PV × List Blk} (h : W C M.length ir_spec_GoodMark.body ⟨start ir_spec_GoodMark args, M⟩ (Lv M.length ir_spec_GoodMark.results r)) : C f_spec_GoodMark args M = some r := call_of rfl rfl h
theorem E_spec_l1Set {args : List PV} {M : List Blk} {P : PV × List Blk → Prop} (h : W C M.length ir_spec_l1Set.body ⟨start ir_spec_l1Set args, M⟩ (Le' M.length ir_spec_l1Set.results P)) : Lw (C f_spec_l1Set args M) P := call_ex rfl rfl h
theorem C_spec_l1Set {args : List PV} {M : List Blk} {r : PV × List Blk} (h : W C M.length ir_spec_l1Set.body ⟨start ir_spec_l1Set args, M⟩ (Lv M.length ir_spec_l1Set.results r)) : C f_spec_l1Set args M = some r := call_of rfl rfl h
theorem E_spec_l1Has {args : List PV} {M : List Blk} {P : PV × List Blk → Prop} (h : W C M.length ir_spec_l1Has.body ⟨start ir_spec_l1Has args, M⟩ (Le' M.length ir_spec_l1Has.results P)) : Lw (C f_spec_l1Has args M) P := call_ex rfl rfl h
theorem C_spec_l1Has {args : List PV} {M : List Blk} {r : PV × List Blk} (h : W C M.length ir_spec_l1Has.body ⟨start ir_spec_l1Has args, M⟩ (Lv M.length ir_spec_l1Has.results r)) : C f_spec_l1Has args M = some r := call_of rfl rfl h
theorem E_spec_l2Meet {args : List PV} {M : List Blk} {P : PV × List Blk → Prop} (h : W C M.length ir_spec_l2Meet.body ⟨start ir_spec_l2Meet args, M⟩ (Le' M.length ir_spec_l2Meet.results P)) : Lw (C f_spec_l2Meet args M) P := call_ex rfl rfl h
theorem C_spec_l2Meet {args : List PV} {M : List Blk} {r : PV × List Blk} (h : W C M.length ir_spec_l2Meet.body ⟨start ir_spec_l2Meet args, M⟩ (Lv M.length ir_spec_l2Meet.results r)) : C f_spec_l2Meet args M = some r := call_of rfl rfl h
theorem E_spec_l8Siphon {args : List PV} {M : List Blk} {P : PV × List Blk → Prop} (h : W C M.length ir_spec_l8Siphon.body ⟨start ir_spec_l8Siphon args, M⟩ (Le' M.length ir_spec_l8Siphon.results P)) : Lw (C f_spec_l8Siphon args M) P := call_ex rfl rfl h
theorem C_spec_l8Siphon {args : List PV} {M : List Blk} {r : PV × List Blk} (h : W C M.length ir_spec_l8Siphon.body ⟨start ir_spec_l8Siphon args, M⟩ (Lv M.length ir_spec_l8Siphon.results r)) : C f_spec_l8Siphon args M = some r := call_of rfl rfl h
theorem E_spec_l8Small {args : List PV} {M : List Blk} {P : PV × List Blk → Prop} (h : W C M.length ir_spec_l8Small.body ⟨start ir_spec_l8Small args, M⟩ (Le' M.length ir_spec_l8Small.results P)) : Lw (C f_spec_l8Small args M) P := call_ex rfl rfl h
theorem C_spec_l8Small {args : List PV} {M : List Blk} {r : PV × List Blk} (h : W C M.length ir_spec_l8Small.body ⟨start ir_spec_l8Small args, M⟩ (Lv M.length ir_spec_l8Small.results r)) : C f_spec_l8Small args M = some r := call_of rfl rfl h
theorem E_spec_l1Own {args : List PV} {M : List Blk} {P : PV × List Blk → Prop} (h : W C M.length ir_spec_l1Own.body ⟨start ir_spec_l1Own args, M⟩ (Le' M.length ir_spec_l1Own.results P)) : Lw (C f_spec_l1Own args M) P := call_ex rfl rfl h
theorem C_spec_l1Own {args : List PV} {M : List Blk} {r : PV × List Blk} (h : W C M.length ir_spec_l1Own.body ⟨start ir_spec_l1Own args, M⟩ (Lv M.length ir_spec_l1Own.results r)) : C f_spec_l1Own args M = some r := call_of rfl rfl h
theorem E_spec_l8Trap {args : List PV} {M : List Blk} {P : PV × List Blk → Prop} (h : W C M.length ir_spec_l8Trap.body ⟨start ir_spec_l8Trap args, M⟩ (Le' M.length ir_spec_l8Trap.results P)) : Lw (C f_spec_l8Trap args M) P := call_ex rfl rfl h
theorem C_spec_l8Trap {args : List PV} {M : List Blk} {r : PV × List Blk} (h : W C M.length ir_spec_l8Trap.body ⟨start ir_spec_l8Trap args, M⟩ (Lv M.length ir_spec_l8Trap.results r)) : C f_spec_l8Trap args M = some r := call_of rfl rfl h
theorem E_spec_l8Without {args : List PV} {M : List Blk} {P : PV × List Blk → Prop} (h : W C M.length ir_spec_l8Without.body ⟨start ir_spec_l8Without args, M⟩ (Le' M.length ir_spec_l8Without.results P)) : Lw (C f_spec_l8Without args M) P := call_ex rfl rfl h
theorem C_spec_l8Without {args : List PV} {M : List Blk} {r : PV × List Blk} (h : W C M.length ir_spec_l8Without.body ⟨start ir_spec_l8Without args, M⟩ (Lv M.length ir_spec_l8Without.results r)) : C f_spec_l8Without args M = some r := call_of rfl rfl h
theorem E_spec_l8BigTrap {args : List PV} {M : List Blk} {P : PV × List Blk → Prop} (h : W C M.length ir_spec_l8BigTrap.body ⟨start ir_spec_l8BigTrap args, M⟩ (Le' M.length ir_spec_l8BigTrap.results P)) : Lw (C f_spec_l8BigTrap args M) P := call_ex rfl rfl h
theorem C_spec_l8BigTrap {args : List PV} {M : List Blk} {r : PV × List Blk} (h : W C M.length ir_spec_l8BigTrap.body ⟨start ir_spec_l8BigTrap args, M⟩ (Lv M.length ir_spec_l8BigTrap.results r)) : C f_spec_l8BigTrap args M = some r := call_of rfl rfl h
theorem E_spec_IsGuarded {args : List PV} {M : List Blk} {P : PV × List Blk → Prop} (h : W C M.length ir_spec_IsGuarded.body ⟨start ir_spec_IsGuarded args, M⟩ (Le' M.length ir_spec_IsGuarded.results P)) : Lw (C f_spec_IsGuarded args M) P := call_ex rfl rfl h
theorem C_spec_IsGuarded {args : List PV} {M : List Blk} {r : PV × List Blk} (h : W C M.length ir_spec_IsGuarded.body ⟨start ir_spec_IsGuarded args, M⟩ (Lv M.length ir_spec_IsGuarded.results r)) : C f_spec_IsGuarded args M = some r := call_of rfl rfl h
theorem E_impl_isMarked {args : List PV} {M : List Blk} {P : PV × List Blk → Prop} (h : W C M.length ir_impl_isMarked.body ⟨start ir_impl_isMarked args, M⟩ (Le' M.length ir_impl_isMarked.results P)) : Lw (C f_impl_isMarked args M) P := call_ex rfl rfl h
theorem C_impl_isMarked {args : List PV} {M : List Blk} {r : PV × List Blk} (h : W C M.length ir_impl_isMarked.body ⟨start ir_impl_isMarked args, M⟩ (Lv M.length ir_impl_isMarked.results r)) : C f_impl_isMarked args M = some r := call_of rfl rfl h
theorem E_impl_isEnabled_1 {args : List PV} {M : List Blk} {P : PV × List Blk → Prop} (h : W C M.length ir_impl_isEnabled_1.body ⟨start ir_impl_isEnabled_1 args, M⟩ (Le' M.length ir_impl_isEnabled_1.results P)) : Lw (C f_impl_isEnabled_1 args M) P := call_ex rfl rfl h
theorem C_impl_isEnabled_1 {args : List PV} {M : List Blk} {r : PV × List Blk} (h : W C M.length ir_impl_isEnabled_1.body ⟨start ir_impl_isEnabled_1 args, M⟩ (Lv M.length ir_impl_isEnabled_1.results r)) : C f_impl_isEnabled_1 args M = some r := call_of rfl rfl h
theorem E_impl_isEnabled {args : List PV} {M : List Blk} {P : PV × List Blk → Prop} (h : W C M.length ir_impl_isEnabled.body ⟨start ir_impl_isEnabled args, M⟩ (Le' M.length ir_impl_isEnabled.results P)) : Lw (C f_impl_isEnabled args M) P := call_ex rfl rfl h
theorem C_impl_isEnabled {args : List PV} {M : List Blk} {r : PV × List Blk} (h : W C M.length ir_impl_isEnabled.body ⟨start ir_impl_isEnabled args, M⟩ (Lv M.length ir_impl_isEnabled.results r)) : C f_impl_isEnabled args M = some r := call_of rfl rfl h
theorem E_impl_enabled {args : List PV} {M : List Blk} {P : PV × List Blk → Prop} (h : W C M.length ir_impl_enabled.body ⟨start ir_impl_enabled args, M⟩ (Le' M.length ir_impl_enabled.results P)) : Lw (C f_impl_enabled args M) P := call_ex rfl rfl h
theorem C_impl_enabled {args : List PV} {M : List Blk} {r : PV × List Blk} (h : W C M.length ir_impl_enabled.body ⟨start ir_impl_enabled args, M⟩ (Lv M.length ir_impl_enabled.results r)) : C f_impl_enabled args M = some r := call_of rfl rfl h
theorem E_impl_Enabled {args : List PV} {M : List Blk} {P : PV × List Blk → Prop} (h : W C M.length ir_impl_Enabled.body ⟨start ir_impl_Enabled args, M⟩ (Le' M.length ir_impl_Enabled.results P)) : Lw (C f_impl_Enabled args M) P := call_ex rfl rfl h
theorem C_impl_Enabled {args : List PV} {M : List Blk} {r : PV × List Blk} (h : W C M.length ir_impl_Enabled.body ⟨start ir_impl_Enabled args, M⟩ (Lv M.length ir_impl_Enabled.results r)) : C f_impl_Enabled args M = some r := call_of rfl rfl h
theorem E_laws_numberOf {args : List PV} {M : List Blk} {P : PV × List Blk → Prop} (h : W C M.length ir_laws_numberOf.body ⟨start ir_laws_numberOf args, M⟩ (Le' M.length ir_laws_numberOf.results P)) : Lw (C f_laws_numberOf args M) P := call_ex rfl rfl h
theorem C_laws_numberOf {args : List PV} {M : List Blk} {r : PV × List Blk} (h : W C M.length ir_laws_numberOf.body ⟨start ir_laws_numberOf args, M⟩ (Lv M.length ir_laws_numberOf.results r)) : C f_laws_numberOf args M = some r := call_of rfl rfl h
theorem E_impl_isTrans {args : List PV} {M : List Blk} {P : PV × List Blk → Prop} (h : W C M.length ir_impl_isTrans.body ⟨start ir_impl_isTrans args, M⟩ (Le' M.length ir_impl_isTrans.results P)) : Lw (C f_impl_isTrans args M) P := call_ex rfl rfl h
theorem C_impl_isTrans {args : List PV} {M : List Blk} {r : PV × List Blk} (h : W C M.length ir_impl_isTrans.body ⟨start ir_impl_isTrans args, M⟩ (Lv M.length ir_impl_isTrans.results r)) : C f_impl_isTrans args M = some r := call_of rfl rfl h
theorem E_impl_fired {args : List PV} {M : List Blk} {P : PV × List Blk → Prop} (h : W C M.length ir_impl_fired.body ⟨start ir_impl_fired args, M⟩ (Le' M.length ir_impl_fired.results P)) : Lw (C f_impl_fired args M) P := call_ex rfl rfl h
theorem C_impl_fired {args : List PV} {M : List Blk} {r : PV × List Blk} (h : W C M.length ir_impl_fired.body ⟨start ir_impl_fired args, M⟩ (Lv M.length ir_impl_fired.results r)) : C f_impl_fired args M = some r := call_of rfl rfl h
theorem E_impl_checkedMark {args : List PV} {M : List Blk} {P : PV × List Blk → Prop} (h : W C M.length ir_impl_checkedMark.body ⟨start ir_impl_checkedMark args, M⟩ (Le' M.length ir_impl_checkedMark.results P)) : Lw (C f_impl_checkedMark args M) P := call_ex rfl rfl h
theorem C_impl_checkedMark {args : List PV} {M : List Blk} {r : PV × List Blk} (h : W C M.length ir_impl_checkedMark.body ⟨start ir_impl_checkedMark args, M⟩ (Lv M.length ir_impl_checkedMark.results r)) : C f_impl_checkedMark args M = some r := call_of rfl rfl h
theorem E_impl_Fire {args : List PV} {M : List Blk} {P : PV × List Blk → Prop} (h : W C M.length ir_impl_Fire.body ⟨start ir_impl_Fire args, M⟩ (Le' M.length ir_impl_Fire.results P)) : Lw (C f_impl_Fire args M) P := call_ex rfl rfl h
theorem C_impl_Fire {args : List PV} {M : List Blk} {r : PV × List Blk} (h : W C M.length ir_impl_Fire.body ⟨start ir_impl_Fire args, M⟩ (Lv M.length ir_impl_Fire.results r)) : C f_impl_Fire args M = some r := call_of rfl rfl h
theorem E_slices_Equal_sl_int_int {args : List PV} {M : List Blk} {P : PV × List Blk → Prop} (h : W C M.length ir_slices_Equal_sl_int_int.body ⟨start ir_slices_Equal_sl_int_int args, M⟩ (Le' M.length ir_slices_Equal_sl_int_int.results P)) : Lw (C f_slices_Equal_sl_int_int args M) P := call_ex rfl rfl h
theorem C_slices_Equal_sl_int_int {args : List PV} {M : List Blk} {r : PV × List Blk} (h : W C M.length ir_slices_Equal_sl_int_int.body ⟨start ir_slices_Equal_sl_int_int args, M⟩ (Lv M.length ir_slices_Equal_sl_int_int.results r)) : C f_slices_Equal_sl_int_int args M = some r := call_of rfl rfl h
theorem E_impl_Space_find_1 {args : List PV} {M : List Blk} {P : PV × List Blk → Prop} (h : W C M.length ir_impl_Space_find_1.body ⟨start ir_impl_Space_find_1 args, M⟩ (Le' M.length ir_impl_Space_find_1.results P)) : Lw (C f_impl_Space_find_1 args M) P := call_ex rfl rfl h
theorem C_impl_Space_find_1 {args : List PV} {M : List Blk} {r : PV × List Blk} (h : W C M.length ir_impl_Space_find_1.body ⟨start ir_impl_Space_find_1 args, M⟩ (Lv M.length ir_impl_Space_find_1.results r)) : C f_impl_Space_find_1 args M = some r := call_of rfl rfl h
theorem E_slices_IndexFunc_sl_sl_int_sl_int {args : List PV} {M : List Blk} {P : PV × List Blk → Prop} (h : W C M.length ir_slices_IndexFunc_sl_sl_int_sl_int.body ⟨start ir_slices_IndexFunc_sl_sl_int_sl_int args, M⟩ (Le' M.length ir_slices_IndexFunc_sl_sl_int_sl_int.results P)) : Lw (C f_slices_IndexFunc_sl_sl_int_sl_int args M) P := call_ex rfl rfl h
theorem C_slices_IndexFunc_sl_sl_int_sl_int {args : List PV} {M : List Blk} {r : PV × List Blk} (h : W C M.length ir_slices_IndexFunc_sl_sl_int_sl_int.body ⟨start ir_slices_IndexFunc_sl_sl_int_sl_int args, M⟩ (Lv M.length ir_slices_IndexFunc_sl_sl_int_sl_int.results r)) : C f_slices_IndexFunc_sl_sl_int_sl_int args M = some r := call_of rfl rfl h
theorem E_impl_Space_find {args : List PV} {M : List Blk} {P : PV × List Blk → Prop} (h : W C M.length ir_impl_Space_find.body ⟨start ir_impl_Space_find args, M⟩ (Le' M.length ir_impl_Space_find.results P)) : Lw (C f_impl_Space_find args M) P := call_ex rfl rfl h
theorem C_impl_Space_find {args : List PV} {M : List Blk} {r : PV × List Blk} (h : W C M.length ir_impl_Space_find.body ⟨start ir_impl_Space_find args, M⟩ (Lv M.length ir_impl_Space_find.results r)) : C f_impl_Space_find args M = some r := call_of rfl rfl h
theorem E_impl_explore {args : List PV} {M : List Blk} {P : PV × List Blk → Prop} (h : W C M.length ir_impl_explore.body ⟨start ir_impl_explore args, M⟩ (Le' M.length ir_impl_explore.results P)) : Lw (C f_impl_explore args M) P := call_ex rfl rfl h
theorem C_impl_explore {args : List PV} {M : List Blk} {r : PV × List Blk} (h : W C M.length ir_impl_explore.body ⟨start ir_impl_explore args, M⟩ (Lv M.length ir_impl_explore.results r)) : C f_impl_explore args M = some r := call_of rfl rfl h
theorem E_impl_Explore {args : List PV} {M : List Blk} {P : PV × List Blk → Prop} (h : W C M.length ir_impl_Explore.body ⟨start ir_impl_Explore args, M⟩ (Le' M.length ir_impl_Explore.results P)) : Lw (C f_impl_Explore args M) P := call_ex rfl rfl h
theorem C_impl_Explore {args : List PV} {M : List Blk} {r : PV × List Blk} (h : W C M.length ir_impl_Explore.body ⟨start ir_impl_Explore args, M⟩ (Lv M.length ir_impl_Explore.results r)) : C f_impl_Explore args M = some r := call_of rfl rfl h
theorem E_impl_wholeSpace {args : List PV} {M : List Blk} {P : PV × List Blk → Prop} (h : W C M.length ir_impl_wholeSpace.body ⟨start ir_impl_wholeSpace args, M⟩ (Le' M.length ir_impl_wholeSpace.results P)) : Lw (C f_impl_wholeSpace args M) P := call_ex rfl rfl h
theorem C_impl_wholeSpace {args : List PV} {M : List Blk} {r : PV × List Blk} (h : W C M.length ir_impl_wholeSpace.body ⟨start ir_impl_wholeSpace args, M⟩ (Lv M.length ir_impl_wholeSpace.results r)) : C f_impl_wholeSpace args M = some r := call_of rfl rfl h
theorem E_impl_FirstDead {args : List PV} {M : List Blk} {P : PV × List Blk → Prop} (h : W C M.length ir_impl_FirstDead.body ⟨start ir_impl_FirstDead args, M⟩ (Le' M.length ir_impl_FirstDead.results P)) : Lw (C f_impl_FirstDead args M) P := call_ex rfl rfl h
theorem C_impl_FirstDead {args : List PV} {M : List Blk} {r : PV × List Blk} (h : W C M.length ir_impl_FirstDead.body ⟨start ir_impl_FirstDead args, M⟩ (Lv M.length ir_impl_FirstDead.results r)) : C f_impl_FirstDead args M = some r := call_of rfl rfl h
theorem E_spec_DrawSmallInvariants {args : List PV} {M : List Blk} {P : PV × List Blk → Prop} (h : W C M.length ir_spec_DrawSmallInvariants.body ⟨start ir_spec_DrawSmallInvariants args, M⟩ (Le' M.length ir_spec_DrawSmallInvariants.results P)) : Lw (C f_spec_DrawSmallInvariants args M) P := call_ex rfl rfl h
theorem C_spec_DrawSmallInvariants {args : List PV} {M : List Blk} {r : PV × List Blk} (h : W C M.length ir_spec_DrawSmallInvariants.body ⟨start ir_spec_DrawSmallInvariants args, M⟩ (Lv M.length ir_spec_DrawSmallInvariants.results r)) : C f_spec_DrawSmallInvariants args M = some r := call_of rfl rfl h
theorem E_spec_DrawSmallSiphons {args : List PV} {M : List Blk} {P : PV × List Blk → Prop} (h : W C M.length ir_spec_DrawSmallSiphons.body ⟨start ir_spec_DrawSmallSiphons args, M⟩ (Le' M.length ir_spec_DrawSmallSiphons.results P)) : Lw (C f_spec_DrawSmallSiphons args M) P := call_ex rfl rfl h
theorem C_spec_DrawSmallSiphons {args : List PV} {M : List Blk} {r : PV × List Blk} (h : W C M.length ir_spec_DrawSmallSiphons.body ⟨start ir_spec_DrawSmallSiphons args, M⟩ (Lv M.length ir_spec_DrawSmallSiphons.results r)) : C f_spec_DrawSmallSiphons args M = some r := call_of rfl rfl h
theorem E_impl_SmallSiphons_1 {args : List PV} {M : List Blk} {P : PV × List Blk → Prop} (h : W C M.length ir_impl_SmallSiphons_1.body ⟨start ir_impl_SmallSiphons_1 args, M⟩ (Le' M.length ir_impl_SmallSiphons_1.results P)) : Lw (C f_impl_SmallSiphons_1 args M) P := call_ex rfl rfl h
theorem C_impl_SmallSiphons_1 {args : List PV} {M : List Blk} {r : PV × List Blk} (h : W C M.length ir_impl_SmallSiphons_1.body ⟨start ir_impl_SmallSiphons_1 args, M⟩ (Lv M.length ir_impl_SmallSiphons_1.results r)) : C f_impl_SmallSiphons_1 args M = some r := call_of rfl rfl h
theorem E_impl_setsOf {args : List PV} {M : List Blk} {P : PV × List Blk → Prop} (h : W C M.length ir_impl_setsOf.body ⟨start ir_impl_setsOf args, M⟩ (Le' M.length ir_impl_setsOf.results P)) : Lw (C f_impl_setsOf args M) P := call_ex rfl rfl h
theorem C_impl_setsOf {args : List PV} {M : List Blk} {r : PV × List Blk} (h : W C M.length ir_impl_setsOf.body ⟨start ir_impl_setsOf args, M⟩ (Lv M.length ir_impl_setsOf.results r)) : C f_impl_setsOf args M = some r := call_of rfl rfl h
theorem E_impl_SmallSiphons {args : List PV} {M : List Blk} {P : PV × List Blk → Prop} (h : W C M.length ir_impl_SmallSiphons.body ⟨start ir_impl_SmallSiphons args, M⟩ (Le' M.length ir_impl_SmallSiphons.results P)) : Lw (C f_impl_SmallSiphons args M) P := call_ex rfl rfl h
theorem C_impl_SmallSiphons {args : List PV} {M : List Blk} {r : PV × List Blk} (h : W C M.length ir_impl_SmallSiphons.body ⟨start ir_impl_SmallSiphons args, M⟩ (Lv M.length ir_impl_SmallSiphons.results r)) : C f_impl_SmallSiphons args M = some r := call_of rfl rfl h
theorem E_spec_SmallSiphons {args : List PV} {M : List Blk} {P : PV × List Blk → Prop} (h : W C M.length ir_spec_SmallSiphons.body ⟨start ir_spec_SmallSiphons args, M⟩ (Le' M.length ir_spec_SmallSiphons.results P)) : Lw (C f_spec_SmallSiphons args M) P := call_ex rfl rfl h
theorem C_spec_SmallSiphons {args : List PV} {M : List Blk} {r : PV × List Blk} (h : W C M.length ir_spec_SmallSiphons.body ⟨start ir_spec_SmallSiphons args, M⟩ (Lv M.length ir_spec_SmallSiphons.results r)) : C f_spec_SmallSiphons args M = some r := call_of rfl rfl h
theorem E_laws_sameInts {args : List PV} {M : List Blk} {P : PV × List Blk → Prop} (h : W C M.length ir_laws_sameInts.body ⟨start ir_laws_sameInts args, M⟩ (Le' M.length ir_laws_sameInts.results P)) : Lw (C f_laws_sameInts args M) P := call_ex rfl rfl h
theorem C_laws_sameInts {args : List PV} {M : List Blk} {r : PV × List Blk} (h : W C M.length ir_laws_sameInts.body ⟨start ir_laws_sameInts args, M⟩ (Lv M.length ir_laws_sameInts.results r)) : C f_laws_sameInts args M = some r := call_of rfl rfl h
theorem E_laws_sameLists {args : List PV} {M : List Blk} {P : PV × List Blk → Prop} (h : W C M.length ir_laws_sameLists.body ⟨start ir_laws_sameLists args, M⟩ (Le' M.length ir_laws_sameLists.results P)) : Lw (C f_laws_sameLists args M) P := call_ex rfl rfl h
theorem C_laws_sameLists {args : List PV} {M : List Blk} {r : PV × List Blk} (h : W C M.length ir_laws_sameLists.body ⟨start ir_laws_sameLists args, M⟩ (Lv M.length ir_laws_sameLists.results r)) : C f_laws_sameLists args M = some r := call_of rfl rfl h
theorem E_impl_IsSiphon {args : List PV} {M : List Blk} {P : PV × List Blk → Prop} (h : W C M.length ir_impl_IsSiphon.body ⟨start ir_impl_IsSiphon args, M⟩ (Le' M.length ir_impl_IsSiphon.results P)) : Lw (C f_impl_IsSiphon args M) P := call_ex rfl rfl h
theorem C_impl_IsSiphon {args : List PV} {M : List Blk} {r : PV × List Blk} (h : W C M.length ir_impl_IsSiphon.body ⟨start ir_impl_IsSiphon args, M⟩ (Lv M.length ir_impl_IsSiphon.results r)) : C f_impl_IsSiphon args M = some r := call_of rfl rfl h
theorem E_laws_has {args : List PV} {M : List Blk} {P : PV × List Blk → Prop} (h : W C M.length ir_laws_has.body ⟨start ir_laws_has args, M⟩ (Le' M.length ir_laws_has.results P)) : Lw (C f_laws_has args M) P := call_ex rfl rfl h
theorem C_laws_has {args : List PV} {M : List Blk} {r : PV × List Blk} (h : W C M.length ir_laws_has.body ⟨start ir_laws_has args, M⟩ (Lv M.length ir_laws_has.results r)) : C f_laws_has args M = some r := call_of rfl rfl h
theorem E_laws_within {args : List PV} {M : List Blk} {P : PV × List Blk → Prop} (h : W C M.length ir_laws_within.body ⟨start ir_laws_within args, M⟩ (Le' M.length ir_laws_within.results P)) : Lw (C f_laws_within args M) P := call_ex rfl rfl h
theorem C_laws_within {args : List PV} {M : List Blk} {r : PV × List Blk} (h : W C M.length ir_laws_within.body ⟨start ir_laws_within args, M⟩ (Lv M.length ir_laws_within.results r)) : C f_laws_within args M = some r := call_of rfl rfl h
theorem E_laws_FnGuarded {args : List PV} {M : List Blk} {P : PV × List Blk → Prop} (h : W C M.length ir_laws_FnGuarded.body ⟨start ir_laws_FnGuarded args, M⟩ (Le' M.length ir_laws_FnGuarded.results P)) : Lw (C f_laws_FnGuarded args M) P := call_ex rfl rfl h
theorem C_laws_FnGuarded {args : List PV} {M : List Blk} {r : PV × List Blk} (h : W C M.length ir_laws_FnGuarded.body ⟨start ir_laws_FnGuarded args, M⟩ (Lv M.length ir_laws_FnGuarded.results r)) : C f_laws_FnGuarded args M = some r := call_of rfl rfl h
theorem slices_Clone_sl_int_int_ok {es : List PV} (h : es.length ≤ 68719476736) : C f_slices_Clone_sl_int_int [.sl true 1 es] [] = some (.un t_int true 1 es, []) := lim_ext (e := ext_slices_Clone_sl_int_int) rfl (by simp [ext_slices_Clone_sl_int_int, extClone, h])
end Go.Proofs.Ytldlbpdbbbajfaa.Pi
