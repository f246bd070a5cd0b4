/- The forms of the functions that the law reaches, and their oracle. Definitions alone; no condition. -/
import Derived.Test.YtkkifebmicbbaaaPiExt
namespace Go.Proofs.Ytkkifebmicbbaaa.Pi
open Go
set_option linter.all false
abbrev t_int : TypeId := 3
abbrev t_bool : TypeId := 4
abbrev t_laws_Net : TypeId := 24
abbrev t_laws_Flow : TypeId := 26
abbrev t_impl_Net : TypeId := 30
abbrev t_impl_Flow : TypeId := 32
abbrev t_sl_bool : TypeId := 114
abbrev t_ty130 : TypeId := 130
abbrev t_impl_Trans : TypeId := 151
abbrev t_laws_Trans : TypeId := 192
abbrev f_laws_szIntS : FuncId := 225
abbrev f_laws_szTrans : FuncId := 192
abbrev f_laws_szTransS : FuncId := 118
abbrev f_laws_szNet : FuncId := 53
abbrev f_laws_szFlow : FuncId := 11
abbrev f_laws_toIntS : FuncId := 56
abbrev f_laws_toTrans : FuncId := 194
abbrev f_laws_toTransS : FuncId := 123
abbrev f_laws_toNet : FuncId := 55
abbrev f_laws_toFlow : FuncId := 13
abbrev f_spec_l1In : FuncId := 71
abbrev f_spec_l1Places : FuncId := 111
abbrev f_spec_l1Rising : FuncId := 226
abbrev f_spec_GoodNet : FuncId := 193
abbrev f_spec_l3Forward : FuncId := 204
abbrev f_spec_l3Back : FuncId := 205
abbrev f_spec_l3Both : FuncId := 206
abbrev f_spec_OnWay : FuncId := 153
abbrev f_spec_l1Has : FuncId := 147
abbrev f_spec_GoodFlow : FuncId := 77
abbrev f_spec_l2Resets : FuncId := 129
abbrev f_spec_l10Asked : FuncId := 63
abbrev f_spec_l2Takers : FuncId := 131
abbrev f_spec_l10Apart : FuncId := 146
abbrev f_spec_l1Own : FuncId := 122
abbrev f_spec_l3Own : FuncId := 81
abbrev f_spec_l8Without : FuncId := 134
abbrev f_spec_l1Put : FuncId := 135
abbrev f_spec_l10Leave : FuncId := 136
abbrev f_spec_l10FusePlaces : FuncId := 68
abbrev f_spec_FusePlaces : FuncId := 18
abbrev f_impl_within : FuncId := 108
abbrev f_impl_increasing : FuncId := 237
abbrev f_impl_allWithin : FuncId := 163
abbrev f_impl_arePlaces : FuncId := 208
abbrev f_impl_GoodNet_1 : FuncId := 207
abbrev f_slices_IndexFunc_sl_impl_Trans_impl_Trans : FuncId := 203
abbrev f_slices_ContainsFunc_sl_impl_Trans_impl_Trans : FuncId := 148
abbrev f_impl_GoodNet : FuncId := 156
abbrev f_slices_Index_sl_int_int : FuncId := 195
abbrev f_slices_Contains_sl_int_int : FuncId := 125
abbrev f_impl_reachedFrom_1 : FuncId := 238
abbrev f_slices_IndexFunc_sl_int_int : FuncId := 240
abbrev f_slices_ContainsFunc_sl_int_int : FuncId := 222
abbrev f_impl_reachedFrom : FuncId := 209
abbrev f_impl_bothOf : FuncId := 210
abbrev f_impl_onWay : FuncId := 157
abbrev f_impl_GoodFlow : FuncId := 80
abbrev f_impl_hasResets_1 : FuncId := 199
abbrev f_impl_hasResets : FuncId := 137
abbrev f_impl_isReducible : FuncId := 65
abbrev f_impl_fusePlaces_1 : FuncId := 149
abbrev f_impl_withTrans : FuncId := 138
abbrev f_slices_Clone_sl_int_int : FuncId := 102
abbrev f_impl_cloneNet : FuncId := 83
abbrev f_slices_Delete_sl_impl_Trans_impl_Trans : FuncId := 202
abbrev f_impl_withoutTrans : FuncId := 144
abbrev f_impl_maskOf : FuncId := 142
abbrev f_impl_setOf : FuncId := 141
abbrev f_impl_withoutPlace_1 : FuncId := 200
abbrev f_impl_withoutPlace_2 : FuncId := 201
abbrev f_impl_withoutPlace : FuncId := 143
abbrev f_impl_fusePlaces : FuncId := 69
abbrev f_impl_FusePlaces : FuncId := 19
abbrev f_laws_eqIntS : FuncId := 29
abbrev f_laws_eqTrans : FuncId := 198
abbrev f_laws_eqTransS : FuncId := 127
abbrev f_laws_eqNet : FuncId := 59
abbrev f_laws_eqFlow : FuncId := 15
abbrev f_laws_markIntS : FuncId := 30
abbrev f_laws_markTransS : FuncId := 128
abbrev f_laws_markNet : FuncId := 60
abbrev f_laws_markFlow : FuncId := 16
abbrev f_laws_heldIntS : FuncId := 31
abbrev f_laws_heldTransS : FuncId := 145
abbrev f_laws_heldNet : FuncId := 67
abbrev f_laws_heldFlow : FuncId := 17
abbrev f_laws_FnExactFusePlaces : FuncId := 4
def ext_slices_Clone_sl_int_int : List PV → Option PV := extClone t_int true 1
def ir_laws_szIntS : IFun := ⟨[0, 1, 4, 10],
  (.seq (.region false [] [⟨some 2, .mov (.c (.int .i64 0)), none⟩])
  (.seq (.region false [] [⟨none, .mov (.v 1), none⟩, ⟨none, .mov (.v 0), none⟩, ⟨none, .len false (.r 1), none⟩, ⟨none, .bin false .sub (.r 0) (.r 2), none⟩, ⟨some 1, .mov (.r 3), none⟩])
  (.seq (.seq (.region false [] [⟨none, .mov (.v 1), none⟩, ⟨some 3, .bin false .lss (.r 0) (.c (.int .i64 0)), none⟩])
  (.cond (.v 3) (.seq (.region false [] [⟨some 2, .mov (.c (.int .i64 (-1))), none⟩])
  .ret) .skip))
  (.seq (.region false [] [⟨none, .mov (.v 1), none⟩, ⟨some 2, .mov (.r 0), none⟩])
  .ret)))),
  [.v 2]⟩
def ir_laws_szTrans : IFun := ⟨[0, 1, 2, 4, 10, 16, 22],
  (.seq (.region false [] [⟨some 2, .box t_laws_Trans 3 (.v 0), none⟩, ⟨some 3, .mov (.c (.int .i64 0)), none⟩])
  (.seq (.region false [] [⟨none, .faddr 0 (.v 2), none⟩, ⟨none, .load false 1 (.r 0), none⟩, ⟨none, .mov (.v 1), none⟩, ⟨none, .call false f_laws_szIntS [(.r 1), (.r 2)], none⟩, ⟨some 1, .mov (.r 3), none⟩])
  (.seq (.seq (.region false [] [⟨none, .mov (.v 1), none⟩, ⟨some 4, .bin false .lss (.r 0) (.c (.int .i64 0)), none⟩])
  (.cond (.v 4) (.seq (.region false [] [⟨some 3, .mov (.c (.int .i64 (-1))), none⟩])
  .ret) .skip))
  (.seq (.region false [] [⟨none, .faddr 1 (.v 2), none⟩, ⟨none, .load false 1 (.r 0), none⟩, ⟨none, .mov (.v 1), none⟩, ⟨none, .call false f_laws_szIntS [(.r 1), (.r 2)], none⟩, ⟨some 1, .mov (.r 3), none⟩])
  (.seq (.seq (.region false [] [⟨none, .mov (.v 1), none⟩, ⟨some 5, .bin false .lss (.r 0) (.c (.int .i64 0)), none⟩])
  (.cond (.v 5) (.seq (.region false [] [⟨some 3, .mov (.c (.int .i64 (-1))), none⟩])
  .ret) .skip))
  (.seq (.region false [] [⟨none, .faddr 2 (.v 2), none⟩, ⟨none, .load false 1 (.r 0), none⟩, ⟨none, .mov (.v 1), none⟩, ⟨none, .call false f_laws_szIntS [(.r 1), (.r 2)], none⟩, ⟨some 1, .mov (.r 3), none⟩])
  (.seq (.seq (.region false [] [⟨none, .mov (.v 1), none⟩, ⟨some 6, .bin false .lss (.r 0) (.c (.int .i64 0)), none⟩])
  (.cond (.v 6) (.seq (.region false [] [⟨some 3, .mov (.c (.int .i64 (-1))), none⟩])
  .ret) .skip))
  (.seq (.region false [] [⟨none, .mov (.v 1), none⟩, ⟨some 3, .mov (.r 0), none⟩])
  .ret)))))))),
  [.v 3]⟩
def ir_laws_szTransS : IFun := ⟨[0, 1, 4, 5, 11, 15, 25],
  (.seq (.region false [] [⟨some 2, .mov (.c (.int .i64 0)), none⟩])
  (.seq (.region false [] [⟨none, .mov (.v 1), none⟩, ⟨none, .mov (.v 0), none⟩, ⟨none, .len false (.r 1), none⟩, ⟨none, .bin false .sub (.r 0) (.r 2), none⟩, ⟨some 1, .mov (.r 3), none⟩])
  (.seq (.seq (.region false [] [⟨none, .mov (.v 1), none⟩, ⟨some 4, .bin false .lss (.r 0) (.c (.int .i64 0)), none⟩])
  (.cond (.v 4) (.seq (.region false [] [⟨some 2, .mov (.c (.int .i64 (-1))), none⟩])
  .ret) .skip))
  (.seq (.seq (.region false [] [⟨some 3, .mov (.c (.int .i64 0)), none⟩])
  (.block 0 (.loop [true, true, false, true, false, false, false] (.seq (.seq (.region false [] [⟨none, .mov (.v 3), none⟩, ⟨none, .mov (.v 0), none⟩, ⟨none, .len false (.r 1), none⟩, ⟨some 5, .bin false .lss (.r 0) (.r 2), none⟩])
  (.cond (.v 5) .skip (.exit 0)))
  (.seq (.block 1 (.seq (.region false [] [⟨none, .mov (.v 0), none⟩, ⟨none, .mov (.v 3), none⟩, ⟨none, .iaddr 3 (.r 0) (.r 1), none⟩, ⟨none, .load true 3 (.r 2), none⟩, ⟨none, .mov (.v 1), none⟩, ⟨none, .call false f_laws_szTrans [(.r 3), (.r 4)], none⟩, ⟨some 1, .mov (.r 5), none⟩])
  (.seq (.region false [] [⟨none, .mov (.v 1), none⟩, ⟨some 6, .bin false .lss (.r 0) (.c (.int .i64 0)), none⟩])
  (.cond (.v 6) (.seq (.region false [] [⟨some 2, .mov (.c (.int .i64 (-1))), none⟩])
  .ret) .skip))))
  (.region false [] [⟨none, .mov (.v 3), none⟩, ⟨none, .bin false .add (.r 0) (.c (.int .i64 1)), none⟩, ⟨some 3, .mov (.r 1), none⟩]))))))
  (.seq (.region false [] [⟨none, .mov (.v 1), none⟩, ⟨some 2, .mov (.r 0), none⟩])
  .ret))))),
  [.v 2]⟩
def ir_laws_szNet : IFun := ⟨[0, 1, 2, 4, 10],
  (.seq (.region false [] [⟨some 2, .box t_laws_Net 2 (.v 0), none⟩, ⟨some 3, .mov (.c (.int .i64 0)), none⟩])
  (.seq (.region false [] [⟨none, .faddr 1 (.v 2), none⟩, ⟨none, .load false 1 (.r 0), none⟩, ⟨none, .mov (.v 1), none⟩, ⟨none, .call false f_laws_szTransS [(.r 1), (.r 2)], none⟩, ⟨some 1, .mov (.r 3), none⟩])
  (.seq (.seq (.region false [] [⟨none, .mov (.v 1), none⟩, ⟨some 4, .bin false .lss (.r 0) (.c (.int .i64 0)), none⟩])
  (.cond (.v 4) (.seq (.region false [] [⟨some 3, .mov (.c (.int .i64 (-1))), none⟩])
  .ret) .skip))
  (.seq (.region false [] [⟨none, .mov (.v 1), none⟩, ⟨some 3, .mov (.r 0), none⟩])
  .ret)))),
  [.v 3]⟩
def ir_laws_szFlow : IFun := ⟨[0, 1, 2, 4, 10],
  (.seq (.region false [] [⟨some 2, .box t_laws_Flow 4 (.v 0), none⟩, ⟨some 3, .mov (.c (.int .i64 0)), none⟩])
  (.seq (.region false [] [⟨none, .faddr 0 (.v 2), none⟩, ⟨none, .load true 2 (.r 0), none⟩, ⟨none, .mov (.v 1), none⟩, ⟨none, .call false f_laws_szNet [(.r 1), (.r 2)], none⟩, ⟨some 1, .mov (.r 3), none⟩])
  (.seq (.seq (.region false [] [⟨none, .mov (.v 1), none⟩, ⟨some 4, .bin false .lss (.r 0) (.c (.int .i64 0)), none⟩])
  (.cond (.v 4) (.seq (.region false [] [⟨some 3, .mov (.c (.int .i64 (-1))), none⟩])
  .ret) .skip))
  (.seq (.region false [] [⟨none, .mov (.v 1), none⟩, ⟨some 3, .mov (.r 0), none⟩])
  .ret)))),
  [.v 3]⟩
def ir_laws_toIntS : IFun := ⟨[0, 2, 3, 4, 11],
  (.seq (.region false [] [⟨some 1, .nilrow t_int true 1, none⟩])
  (.seq (.region false [] [⟨none, .mov (.v 0), none⟩, ⟨none, .len false (.r 0), none⟩, ⟨none, .mk t_int true 1 (.int .i64 0) (.r 1), none⟩, ⟨some 2, .mov (.r 2), none⟩])
  (.seq (.seq (.region false [] [⟨some 3, .mov (.c (.int .i64 0)), none⟩])
  (.block 0 (.loop [true, false, true, true, false] (.seq (.seq (.region false [] [⟨none, .mov (.v 3), none⟩, ⟨none, .mov (.v 0), none⟩, ⟨none, .len false (.r 1), none⟩, ⟨some 4, .bin false .lss (.r 0) (.r 2), none⟩])
  (.cond (.v 4) .skip (.exit 0)))
  (.seq (.block 1 (.region false [] [⟨none, .mov (.v 2), none⟩, ⟨none, .mov (.v 3), none⟩, ⟨none, .mov (.v 0), none⟩, ⟨none, .mov (.v 3), none⟩, ⟨none, .iaddr 1 (.r 2) (.r 3), none⟩, ⟨none, .load false 1 (.r 4), none⟩, ⟨none, .iaddr 1 (.r 0) (.r 1), none⟩, ⟨none, .store 1 (.r 6) (.r 5), none⟩]))
  (.region false [] [⟨none, .mov (.v 3), none⟩, ⟨none, .bin false .add (.r 0) (.c (.int .i64 1)), none⟩, ⟨some 3, .mov (.r 1), none⟩]))))))
  (.seq (.region false [] [⟨none, .mov (.v 2), none⟩, ⟨some 1, .mov (.r 0), none⟩])
  .ret)))),
  [.v 1]⟩
def ir_laws_toTrans : IFun := ⟨[0, 1, 2, 3],
  (.seq (.region false [] [⟨some 1, .box t_laws_Trans 3 (.v 0), none⟩, ⟨some 2, .alloc t_impl_Trans [(.nil true 1), (.nil true 1), (.nil true 1)], none⟩])
  (.seq (.region false [] [⟨some 3, .alloc t_impl_Trans [(.nil true 1), (.nil true 1), (.nil true 1)], none⟩])
  (.seq (.region false [] [⟨none, .faddr 0 (.v 1), none⟩, ⟨none, .load false 1 (.r 0), none⟩, ⟨none, .call false f_laws_toIntS [(.r 1)], none⟩, ⟨none, .faddr 0 (.v 3), none⟩, ⟨none, .store 1 (.r 3) (.r 2), none⟩])
  (.seq (.region false [] [⟨none, .faddr 1 (.v 1), none⟩, ⟨none, .load false 1 (.r 0), none⟩, ⟨none, .call false f_laws_toIntS [(.r 1)], none⟩, ⟨none, .faddr 1 (.v 3), none⟩, ⟨none, .store 1 (.r 3) (.r 2), none⟩])
  (.seq (.region false [] [⟨none, .faddr 2 (.v 1), none⟩, ⟨none, .load false 1 (.r 0), none⟩, ⟨none, .call false f_laws_toIntS [(.r 1)], none⟩, ⟨none, .faddr 2 (.v 3), none⟩, ⟨none, .store 1 (.r 3) (.r 2), none⟩])
  (.seq (.region false [] [⟨none, .load true 3 (.v 3), none⟩, ⟨none, .store 3 (.v 2) (.r 0), none⟩])
  .ret)))))),
  [.cell true 3 2]⟩
def ir_laws_toTransS : IFun := ⟨[0, 2, 3, 4, 11],
  (.seq (.region false [] [⟨some 1, .nill t_impl_Trans 3, none⟩])
  (.seq (.region false [] [⟨none, .mov (.v 0), none⟩, ⟨none, .len false (.r 0), none⟩, ⟨none, .mkl t_impl_Trans 3 (.agg [(.nil true 1), (.nil true 1), (.nil true 1)]) (.r 1), none⟩, ⟨some 2, .mov (.r 2), none⟩])
  (.seq (.seq (.region false [] [⟨some 3, .mov (.c (.int .i64 0)), none⟩])
  (.block 0 (.loop [true, false, true, true, false] (.seq (.seq (.region false [] [⟨none, .mov (.v 3), none⟩, ⟨none, .mov (.v 0), none⟩, ⟨none, .len false (.r 1), none⟩, ⟨some 4, .bin false .lss (.r 0) (.r 2), none⟩])
  (.cond (.v 4) .skip (.exit 0)))
  (.seq (.block 1 (.region false [] [⟨none, .mov (.v 2), none⟩, ⟨none, .mov (.v 3), none⟩, ⟨none, .mov (.v 0), none⟩, ⟨none, .mov (.v 3), none⟩, ⟨none, .iaddr 3 (.r 2) (.r 3), none⟩, ⟨none, .load true 3 (.r 4), none⟩, ⟨none, .call false f_laws_toTrans [(.r 5)], none⟩, ⟨none, .iaddr 3 (.r 0) (.r 1), none⟩, ⟨none, .stl 3 (.r 7) (.r 6), none⟩]))
  (.region false [] [⟨none, .mov (.v 3), none⟩, ⟨none, .bin false .add (.r 0) (.c (.int .i64 1)), none⟩, ⟨some 3, .mov (.r 1), none⟩]))))))
  (.seq (.region false [] [⟨none, .mov (.v 2), none⟩, ⟨some 1, .mov (.r 0), none⟩])
  .ret)))),
  [.v 1]⟩
def ir_laws_toNet : IFun := ⟨[0, 1, 2, 3],
  (.seq (.region false [] [⟨some 1, .box t_laws_Net 2 (.v 0), none⟩, ⟨some 2, .alloc t_impl_Net [(.int .i64 0), (.nil false 3)], none⟩])
  (.seq (.region false [] [⟨some 3, .alloc t_impl_Net [(.int .i64 0), (.nil false 3)], none⟩])
  (.seq (.region false [] [⟨none, .faddr 0 (.v 1), none⟩, ⟨none, .load false 1 (.r 0), none⟩, ⟨none, .faddr 0 (.v 3), none⟩, ⟨none, .stl 1 (.r 2) (.r 1), none⟩])
  (.seq (.region false [] [⟨none, .faddr 1 (.v 1), none⟩, ⟨none, .load false 1 (.r 0), none⟩, ⟨none, .call false f_laws_toTransS [(.r 1)], none⟩, ⟨none, .faddr 1 (.v 3), none⟩, ⟨none, .stl 1 (.r 3) (.r 2), none⟩])
  (.seq (.region false [] [⟨none, .load true 2 (.v 3), none⟩, ⟨none, .stl 2 (.v 2) (.r 0), none⟩])
  .ret))))),
  [.cell true 2 2]⟩
def ir_laws_toFlow : IFun := ⟨[0, 1, 2, 3],
  (.seq (.region false [] [⟨some 1, .box t_laws_Flow 4 (.v 0), none⟩, ⟨some 2, .alloc t_impl_Flow [(.int .i64 0), (.nil false 3), (.int .i64 0), (.int .i64 0)], none⟩])
  (.seq (.region false [] [⟨some 3, .alloc t_impl_Flow [(.int .i64 0), (.nil false 3), (.int .i64 0), (.int .i64 0)], none⟩])
  (.seq (.region false [] [⟨none, .faddr 0 (.v 1), none⟩, ⟨none, .load true 2 (.r 0), none⟩, ⟨none, .call false f_laws_toNet [(.r 1)], none⟩, ⟨none, .faddr 0 (.v 3), none⟩, ⟨none, .stl 2 (.r 3) (.r 2), none⟩])
  (.seq (.region false [] [⟨none, .faddr 2 (.v 1), none⟩, ⟨none, .load false 1 (.r 0), none⟩, ⟨none, .faddr 2 (.v 3), none⟩, ⟨none, .stl 1 (.r 2) (.r 1), none⟩])
  (.seq (.region false [] [⟨none, .faddr 3 (.v 1), none⟩, ⟨none, .load false 1 (.r 0), none⟩, ⟨none, .faddr 3 (.v 3), none⟩, ⟨none, .stl 1 (.r 2) (.r 1), none⟩])
  (.seq (.region false [] [⟨none, .load true 4 (.v 3), none⟩, ⟨none, .stl 4 (.v 2) (.r 0), none⟩])
  .ret)))))),
  [.cell true 4 2]⟩
def ir_spec_l1In : IFun := ⟨[0, 1, 2, 6],
  (.seq (.region false [] [⟨some 3, .mov (.c (.bool false)), none⟩])
  (.seq (.region false [] [⟨none, .mov (.v 0), none⟩, ⟨none, .mov (.v 1), none⟩, ⟨none, .bin false .geq (.r 0) (.r 1), none⟩, ⟨none, .mov (.r 2), none⟩, ⟨none, .mov (.v 0), some (3, true)⟩, ⟨none, .mov (.v 2), some (3, true)⟩, ⟨none, .bin false .leq (.r 4) (.r 5), some (3, true)⟩, ⟨none, .pick (.r 3) (.r 6) (.c (.bool false)), none⟩, ⟨some 3, .mov (.r 7), none⟩])
  .ret)),
  [.v 3]⟩
def ir_spec_l1Places : IFun := ⟨[0, 2],
  (.seq (.region false [] [⟨some 1, .mov (.c (.bool false)), none⟩])
  (.seq (.region false [] [⟨none, .mov (.v 0), none⟩, ⟨none, .call false f_spec_l1In [(.r 0), (.c (.int .i64 1)), (.c (.int .i64 16))], none⟩, ⟨some 1, .mov (.r 1), none⟩])
  .ret)),
  [.v 1]⟩
def ir_spec_l1Rising : IFun := ⟨[0, 1, 2, 6, 7, 8, 9, 10, 11, 12, 33],
  (.seq (.region false [] [⟨some 3, .mov (.c (.bool false)), none⟩])
  (.seq (.seq (.region false [] [⟨some 6, .mov (.v 0), none⟩, ⟨some 7, .len false (.v 6), none⟩, ⟨some 8, .mov (.c (.int .i64 0)), none⟩])
  (.block 0 (.loop [true, true, true, false, false, false, true, true, true, false, false] (.seq (.region false [] [⟨some 9, .bin false .lss (.v 8) (.v 7), none⟩])
  (.seq (.cond (.v 9) .skip (.exit 0))
  (.seq (.block 1 (.seq (.region false [] [⟨none, .mov (.v 8), none⟩, ⟨none, .iaddr 1 (.v 6) (.v 8), none⟩, ⟨none, .load false 1 (.r 1), none⟩, ⟨some 4, .mov (.r 0), none⟩, ⟨some 5, .mov (.r 2), none⟩])
  (.seq (.region false [] [⟨none, .mov (.v 5), none⟩, ⟨none, .mov (.v 1), none⟩, ⟨none, .mov (.v 2), none⟩, ⟨none, .call false f_spec_l1In [(.r 0), (.r 1), (.r 2)], none⟩, ⟨none, .not (.r 3), none⟩, ⟨none, .mov (.r 4), none⟩, ⟨none, .mov (.v 4), some (5, false)⟩, ⟨none, .bin false .gtr (.r 6) (.c (.int .i64 0)), some (5, false)⟩, ⟨none, .mov (.r 7), some (5, false)⟩, ⟨none, .mov (.v 0), some (8, true)⟩, ⟨none, .mov (.v 4), some (8, true)⟩, ⟨none, .bin false .sub (.r 10) (.c (.int .i64 1)), some (8, true)⟩, ⟨none, .iaddr 1 (.r 9) (.r 11), some (8, true)⟩, ⟨none, .load false 1 (.r 12), some (8, true)⟩, ⟨none, .mov (.v 5), some (8, true)⟩, ⟨none, .bin false .geq (.r 13) (.r 14), some (8, true)⟩, ⟨none, .pick (.r 8) (.r 15) (.c (.bool false)), some (5, false)⟩, ⟨some 10, .pick (.r 5) (.c (.bool true)) (.r 16), none⟩])
  (.cond (.v 10) (.seq (.region false [] [⟨some 3, .mov (.c (.bool false)), none⟩])
  .ret) .skip))))
  (.region false [] [⟨none, .bin false .add (.v 8) (.c (.int .i64 1)), none⟩, ⟨some 8, .mov (.r 0), none⟩])))))))
  (.seq (.region false [] [⟨some 3, .mov (.c (.bool true)), none⟩])
  .ret))),
  [.v 3]⟩
def ir_spec_GoodNet : IFun := ⟨[0, 1, 2, 4, 14, 16, 17, 18, 19, 52],
  (.seq (.region false [] [⟨some 1, .box t_impl_Net 2 (.v 0), none⟩, ⟨some 2, .mov (.c (.bool false)), none⟩])
  (.seq (.seq (.region false [] [⟨none, .faddr 0 (.v 1), none⟩, ⟨none, .load false 1 (.r 0), none⟩, ⟨none, .call false f_spec_l1Places [(.r 1)], none⟩, ⟨none, .not (.r 2), none⟩, ⟨none, .mov (.r 3), none⟩, ⟨none, .faddr 1 (.v 1), some (4, false)⟩, ⟨none, .load false 1 (.r 5), some (4, false)⟩, ⟨none, .len false (.r 6), some (4, false)⟩, ⟨none, .bin false .gtr (.r 7) (.c (.int .i64 24)), some (4, false)⟩, ⟨some 4, .pick (.r 4) (.c (.bool true)) (.r 8), none⟩])
  (.cond (.v 4) (.seq (.region false [] [⟨some 2, .mov (.c (.bool false)), none⟩])
  .ret) .skip))
  (.seq (.seq (.region false [] [⟨none, .faddr 1 (.v 1), none⟩, ⟨some 5, .load false 1 (.r 0), none⟩, ⟨some 6, .len false (.v 5), none⟩, ⟨some 7, .mov (.c (.int .i64 0)), none⟩])
  (.block 0 (.loop [false, true, false, false, false, true, true, true, false, false] (.seq (.region false [] [⟨some 8, .bin false .lss (.v 7) (.v 6), none⟩])
  (.seq (.cond (.v 8) .skip (.exit 0))
  (.seq (.block 1 (.seq (.region false [] [⟨none, .iaddr 3 (.v 5) (.v 7), none⟩, ⟨none, .load true 3 (.r 0), none⟩, ⟨some 3, .alloc t_impl_Trans [(.nil true 1), (.nil true 1), (.nil true 1)], none⟩, ⟨none, .store 3 (.v 3) (.r 1), none⟩])
  (.seq (.region false [] [⟨none, .faddr 0 (.v 3), none⟩, ⟨none, .load false 1 (.r 0), none⟩, ⟨none, .len false (.r 1), none⟩, ⟨none, .bin false .eql (.r 2) (.c (.int .i64 0)), none⟩, ⟨none, .mov (.r 3), none⟩, ⟨none, .faddr 0 (.v 3), some (4, false)⟩, ⟨none, .load false 1 (.r 5), some (4, false)⟩, ⟨none, .faddr 0 (.v 1), some (4, false)⟩, ⟨none, .load false 1 (.r 7), some (4, false)⟩, ⟨none, .bin false .sub (.r 8) (.c (.int .i64 1)), some (4, false)⟩, ⟨none, .call false f_spec_l1Rising [(.r 6), (.c (.int .i64 0)), (.r 9)], some (4, false)⟩, ⟨none, .not (.r 10), some (4, false)⟩, ⟨none, .pick (.r 4) (.c (.bool true)) (.r 11), none⟩, ⟨none, .mov (.r 12), none⟩, ⟨none, .faddr 1 (.v 3), some (13, false)⟩, ⟨none, .load false 1 (.r 14), some (13, false)⟩, ⟨none, .faddr 0 (.v 1), some (13, false)⟩, ⟨none, .load false 1 (.r 16), some (13, false)⟩, ⟨none, .bin false .sub (.r 17) (.c (.int .i64 1)), some (13, false)⟩, ⟨none, .call false f_spec_l1Rising [(.r 15), (.c (.int .i64 0)), (.r 18)], some (13, false)⟩, ⟨none, .not (.r 19), some (13, false)⟩, ⟨none, .pick (.r 13) (.c (.bool true)) (.r 20), none⟩, ⟨none, .mov (.r 21), none⟩, ⟨none, .faddr 2 (.v 3), some (22, false)⟩, ⟨none, .load false 1 (.r 23), some (22, false)⟩, ⟨none, .faddr 0 (.v 1), some (22, false)⟩, ⟨none, .load false 1 (.r 25), some (22, false)⟩, ⟨none, .bin false .sub (.r 26) (.c (.int .i64 1)), some (22, false)⟩, ⟨none, .call false f_spec_l1Rising [(.r 24), (.c (.int .i64 0)), (.r 27)], some (22, false)⟩, ⟨none, .not (.r 28), some (22, false)⟩, ⟨some 9, .pick (.r 22) (.c (.bool true)) (.r 29), none⟩])
  (.cond (.v 9) (.seq (.region false [] [⟨some 2, .mov (.c (.bool false)), none⟩])
  .ret) .skip))))
  (.region false [] [⟨none, .bin false .add (.v 7) (.c (.int .i64 1)), none⟩, ⟨some 7, .mov (.r 0), none⟩])))))))
  (.seq (.region false [] [⟨some 2, .mov (.c (.bool true)), none⟩])
  .ret)))),
  [.v 2]⟩
def ir_spec_l3Forward : IFun := ⟨[0, 1, 2, 4, 5, 6, 7, 8, 9, 10, 11, 13, 15, 26, 28, 29, 30, 31, 36, 37, 38, 39, 57, 62, 63, 64, 65],
  (.seq (.region false [] [⟨some 2, .box t_impl_Net 2 (.v 0), none⟩, ⟨some 3, .nilrow t_bool true 1, none⟩, ⟨some 4, .nilrow t_bool true 1, none⟩])
  (.seq (.region false [] [⟨none, .faddr 0 (.v 2), none⟩, ⟨none, .load false 1 (.r 0), none⟩, ⟨none, .mk t_bool true 1 (.bool false) (.r 1), none⟩, ⟨some 5, .mov (.r 2), none⟩])
  (.seq (.region false [] [⟨none, .faddr 1 (.v 2), none⟩, ⟨none, .load false 1 (.r 0), none⟩, ⟨none, .len false (.r 1), none⟩, ⟨none, .mk t_bool true 1 (.bool false) (.r 2), none⟩, ⟨some 6, .mov (.r 3), none⟩])
  (.seq (.region false [] [⟨none, .mov (.v 5), none⟩, ⟨none, .mov (.v 1), none⟩, ⟨none, .iaddr 1 (.r 0) (.r 1), none⟩, ⟨none, .store 1 (.r 2) (.c (.bool true)), none⟩])
  (.seq (.seq (.region false [] [⟨some 7, .mov (.c (.bool true)), none⟩])
  (.block 0 (.loop [false, false, true, false, false, true, true, true, false, false, false, false, false, false, false, false, false, false, false, false, false, false, false, false, false, false, false] (.seq (.seq (.region false [] [⟨some 13, .mov (.v 7), none⟩])
  (.cond (.v 13) .skip (.exit 0)))
  (.block 1 (.seq (.region false [] [⟨some 7, .mov (.c (.bool false)), none⟩])
  (.seq (.region false [] [⟨none, .faddr 1 (.v 2), none⟩, ⟨some 14, .load false 1 (.r 0), none⟩, ⟨some 15, .len false (.v 14), none⟩, ⟨some 16, .mov (.c (.int .i64 0)), none⟩])
  (.block 2 (.loop [false, false, true, false, false, true, true, true, false, false, false, false, false, false, true, true, true, false, false, false, false, false, false, false, false, false, false] (.seq (.region false [] [⟨some 17, .bin false .lss (.v 16) (.v 15), none⟩])
  (.seq (.cond (.v 17) .skip (.exit 2))
  (.seq (.block 3 (.seq (.region false [] [⟨none, .mov (.v 16), none⟩, ⟨none, .iaddr 3 (.v 14) (.v 16), none⟩, ⟨none, .load true 3 (.r 1), none⟩, ⟨some 9, .alloc t_impl_Trans [(.nil true 1), (.nil true 1), (.nil true 1)], none⟩, ⟨some 8, .mov (.r 0), none⟩, ⟨none, .store 3 (.v 9) (.r 2), none⟩])
  (.seq (.region false [] [⟨some 10, .mov (.c (.bool false)), none⟩])
  (.seq (.seq (.region false [] [⟨none, .faddr 0 (.v 9), none⟩, ⟨some 18, .load false 1 (.r 0), none⟩, ⟨some 19, .len false (.v 18), none⟩, ⟨some 20, .mov (.c (.int .i64 0)), none⟩])
  (.block 4 (.loop [false, false, true, false, false, true, true, true, true, true, true, false, false, false, true, true, true, false, true, true, true, false, false, false, false, false, false] (.seq (.region false [] [⟨some 21, .bin false .lss (.v 20) (.v 19), none⟩])
  (.seq (.cond (.v 21) .skip (.exit 4))
  (.seq (.block 5 (.seq (.region false [] [⟨none, .iaddr 1 (.v 18) (.v 20), none⟩, ⟨none, .load false 1 (.r 0), none⟩, ⟨some 11, .mov (.r 1), none⟩])
  (.region false [] [⟨none, .mov (.v 10), none⟩, ⟨none, .mov (.r 0), none⟩, ⟨none, .mov (.v 5), some (1, false)⟩, ⟨none, .mov (.v 11), some (1, false)⟩, ⟨none, .iaddr 1 (.r 2) (.r 3), some (1, false)⟩, ⟨none, .load false 1 (.r 4), some (1, false)⟩, ⟨none, .pick (.r 1) (.c (.bool true)) (.r 5), none⟩, ⟨some 10, .mov (.r 6), none⟩])))
  (.region false [] [⟨none, .bin false .add (.v 20) (.c (.int .i64 1)), none⟩, ⟨some 20, .mov (.r 0), none⟩])))))))
  (.seq (.seq (.region false [] [⟨none, .mov (.v 10), none⟩, ⟨none, .not (.r 0), none⟩, ⟨none, .mov (.r 1), none⟩, ⟨none, .mov (.v 6), some (2, false)⟩, ⟨none, .mov (.v 8), some (2, false)⟩, ⟨none, .iaddr 1 (.r 3) (.r 4), some (2, false)⟩, ⟨none, .load false 1 (.r 5), some (2, false)⟩, ⟨some 22, .pick (.r 2) (.c (.bool true)) (.r 6), none⟩])
  (.cond (.v 22) (.exit 3) .skip))
  (.seq (.region false [] [⟨none, .mov (.v 6), none⟩, ⟨none, .mov (.v 8), none⟩, ⟨none, .iaddr 1 (.r 0) (.r 1), none⟩, ⟨none, .store 1 (.r 2) (.c (.bool true)), none⟩])
  (.seq (.region false [] [⟨some 7, .mov (.c (.bool true)), none⟩])
  (.seq (.region false [] [⟨none, .faddr 1 (.v 9), none⟩, ⟨some 23, .load false 1 (.r 0), none⟩, ⟨some 24, .len false (.v 23), none⟩, ⟨some 25, .mov (.c (.int .i64 0)), none⟩])
  (.block 6 (.loop [false, false, true, false, false, true, true, true, false, false, false, false, false, false, true, true, true, false, false, false, false, false, false, true, true, true, false] (.seq (.region false [] [⟨some 26, .bin false .lss (.v 25) (.v 24), none⟩])
  (.seq (.cond (.v 26) .skip (.exit 6))
  (.seq (.block 7 (.seq (.region false [] [⟨none, .iaddr 1 (.v 23) (.v 25), none⟩, ⟨none, .load false 1 (.r 0), none⟩, ⟨some 12, .mov (.r 1), none⟩])
  (.region false [] [⟨none, .mov (.v 5), none⟩, ⟨none, .mov (.v 12), none⟩, ⟨none, .iaddr 1 (.r 0) (.r 1), none⟩, ⟨none, .store 1 (.r 2) (.c (.bool true)), none⟩])))
  (.region false [] [⟨none, .bin false .add (.v 25) (.c (.int .i64 1)), none⟩, ⟨some 25, .mov (.r 0), none⟩]))))))))))))))
  (.region false [] [⟨none, .bin false .add (.v 16) (.c (.int .i64 1)), none⟩, ⟨some 16, .mov (.r 0), none⟩])))))))))))))
  (.seq (.region false [] [⟨none, .mov (.v 5), none⟩, ⟨none, .mov (.v 6), none⟩, ⟨some 3, .mov (.r 0), none⟩, ⟨some 4, .mov (.r 1), none⟩])
  .ret)))))),
  [.v 3, .v 4]⟩
def ir_spec_l3Back : IFun := ⟨[0, 1, 2, 4, 5, 6, 7, 8, 9, 10, 11, 13, 15, 26, 28, 29, 30, 31, 36, 37, 38, 39, 57, 62, 63, 64, 65],
  (.seq (.region false [] [⟨some 2, .box t_impl_Net 2 (.v 0), none⟩, ⟨some 3, .nilrow t_bool true 1, none⟩, ⟨some 4, .nilrow t_bool true 1, none⟩])
  (.seq (.region false [] [⟨none, .faddr 0 (.v 2), none⟩, ⟨none, .load false 1 (.r 0), none⟩, ⟨none, .mk t_bool true 1 (.bool false) (.r 1), none⟩, ⟨some 5, .mov (.r 2), none⟩])
  (.seq (.region false [] [⟨none, .faddr 1 (.v 2), none⟩, ⟨none, .load false 1 (.r 0), none⟩, ⟨none, .len false (.r 1), none⟩, ⟨none, .mk t_bool true 1 (.bool false) (.r 2), none⟩, ⟨some 6, .mov (.r 3), none⟩])
  (.seq (.region false [] [⟨none, .mov (.v 5), none⟩, ⟨none, .mov (.v 1), none⟩, ⟨none, .iaddr 1 (.r 0) (.r 1), none⟩, ⟨none, .store 1 (.r 2) (.c (.bool true)), none⟩])
  (.seq (.seq (.region false [] [⟨some 7, .mov (.c (.bool true)), none⟩])
  (.block 0 (.loop [false, false, true, false, false, true, true, true, false, false, false, false, false, false, false, false, false, false, false, false, false, false, false, false, false, false, false] (.seq (.seq (.region false [] [⟨some 13, .mov (.v 7), none⟩])
  (.cond (.v 13) .skip (.exit 0)))
  (.block 1 (.seq (.region false [] [⟨some 7, .mov (.c (.bool false)), none⟩])
  (.seq (.region false [] [⟨none, .faddr 1 (.v 2), none⟩, ⟨some 14, .load false 1 (.r 0), none⟩, ⟨some 15, .len false (.v 14), none⟩, ⟨some 16, .mov (.c (.int .i64 0)), none⟩])
  (.block 2 (.loop [false, false, true, false, false, true, true, true, false, false, false, false, false, false, true, true, true, false, false, false, false, false, false, false, false, false, false] (.seq (.region false [] [⟨some 17, .bin false .lss (.v 16) (.v 15), none⟩])
  (.seq (.cond (.v 17) .skip (.exit 2))
  (.seq (.block 3 (.seq (.region false [] [⟨none, .mov (.v 16), none⟩, ⟨none, .iaddr 3 (.v 14) (.v 16), none⟩, ⟨none, .load true 3 (.r 1), none⟩, ⟨some 9, .alloc t_impl_Trans [(.nil true 1), (.nil true 1), (.nil true 1)], none⟩, ⟨some 8, .mov (.r 0), none⟩, ⟨none, .store 3 (.v 9) (.r 2), none⟩])
  (.seq (.region false [] [⟨some 10, .mov (.c (.bool false)), none⟩])
  (.seq (.seq (.region false [] [⟨none, .faddr 1 (.v 9), none⟩, ⟨some 18, .load false 1 (.r 0), none⟩, ⟨some 19, .len false (.v 18), none⟩, ⟨some 20, .mov (.c (.int .i64 0)), none⟩])
  (.block 4 (.loop [false, false, true, false, false, true, true, true, true, true, true, false, false, false, true, true, true, false, true, true, true, false, false, false, false, false, false] (.seq (.region false [] [⟨some 21, .bin false .lss (.v 20) (.v 19), none⟩])
  (.seq (.cond (.v 21) .skip (.exit 4))
  (.seq (.block 5 (.seq (.region false [] [⟨none, .iaddr 1 (.v 18) (.v 20), none⟩, ⟨none, .load false 1 (.r 0), none⟩, ⟨some 11, .mov (.r 1), none⟩])
  (.region false [] [⟨none, .mov (.v 10), none⟩, ⟨none, .mov (.r 0), none⟩, ⟨none, .mov (.v 5), some (1, false)⟩, ⟨none, .mov (.v 11), some (1, false)⟩, ⟨none, .iaddr 1 (.r 2) (.r 3), some (1, false)⟩, ⟨none, .load false 1 (.r 4), some (1, false)⟩, ⟨none, .pick (.r 1) (.c (.bool true)) (.r 5), none⟩, ⟨some 10, .mov (.r 6), none⟩])))
  (.region false [] [⟨none, .bin false .add (.v 20) (.c (.int .i64 1)), none⟩, ⟨some 20, .mov (.r 0), none⟩])))))))
  (.seq (.seq (.region false [] [⟨none, .mov (.v 10), none⟩, ⟨none, .not (.r 0), none⟩, ⟨none, .mov (.r 1), none⟩, ⟨none, .mov (.v 6), some (2, false)⟩, ⟨none, .mov (.v 8), some (2, false)⟩, ⟨none, .iaddr 1 (.r 3) (.r 4), some (2, false)⟩, ⟨none, .load false 1 (.r 5), some (2, false)⟩, ⟨some 22, .pick (.r 2) (.c (.bool true)) (.r 6), none⟩])
  (.cond (.v 22) (.exit 3) .skip))
  (.seq (.region false [] [⟨none, .mov (.v 6), none⟩, ⟨none, .mov (.v 8), none⟩, ⟨none, .iaddr 1 (.r 0) (.r 1), none⟩, ⟨none, .store 1 (.r 2) (.c (.bool true)), none⟩])
  (.seq (.region false [] [⟨some 7, .mov (.c (.bool true)), none⟩])
  (.seq (.region false [] [⟨none, .faddr 0 (.v 9), none⟩, ⟨some 23, .load false 1 (.r 0), none⟩, ⟨some 24, .len false (.v 23), none⟩, ⟨some 25, .mov (.c (.int .i64 0)), none⟩])
  (.block 6 (.loop [false, false, true, false, false, true, true, true, false, false, false, false, false, false, true, true, true, false, false, false, false, false, false, true, true, true, false] (.seq (.region false [] [⟨some 26, .bin false .lss (.v 25) (.v 24), none⟩])
  (.seq (.cond (.v 26) .skip (.exit 6))
  (.seq (.block 7 (.seq (.region false [] [⟨none, .iaddr 1 (.v 23) (.v 25), none⟩, ⟨none, .load false 1 (.r 0), none⟩, ⟨some 12, .mov (.r 1), none⟩])
  (.region false [] [⟨none, .mov (.v 5), none⟩, ⟨none, .mov (.v 12), none⟩, ⟨none, .iaddr 1 (.r 0) (.r 1), none⟩, ⟨none, .store 1 (.r 2) (.c (.bool true)), none⟩])))
  (.region false [] [⟨none, .bin false .add (.v 25) (.c (.int .i64 1)), none⟩, ⟨some 25, .mov (.r 0), none⟩]))))))))))))))
  (.region false [] [⟨none, .bin false .add (.v 16) (.c (.int .i64 1)), none⟩, ⟨some 16, .mov (.r 0), none⟩])))))))))))))
  (.seq (.region false [] [⟨none, .mov (.v 5), none⟩, ⟨none, .mov (.v 6), none⟩, ⟨some 3, .mov (.r 0), none⟩, ⟨some 4, .mov (.r 1), none⟩])
  .ret)))))),
  [.v 3, .v 4]⟩
def ir_spec_l3Both : IFun := ⟨[0, 1, 4, 5, 6, 8, 9, 10, 21],
  (.seq (.region false [] [⟨some 2, .nilrow t_int true 1, none⟩])
  (.seq (.region false [] [⟨some 3, .nilrow t_int true 1, none⟩])
  (.seq (.seq (.region false [] [⟨none, .mov (.v 0), none⟩, ⟨some 5, .len false (.r 0), none⟩, ⟨some 6, .mov (.c (.int .i64 0)), none⟩])
  (.block 0 (.loop [true, true, false, true, false, true, true, false, false] (.seq (.region false [] [⟨some 7, .bin false .lss (.v 6) (.v 5), none⟩])
  (.seq (.cond (.v 7) .skip (.exit 0))
  (.seq (.block 1 (.seq (.region false [] [⟨none, .mov (.v 6), none⟩, ⟨some 4, .mov (.r 0), none⟩])
  (.seq (.region false [] [⟨none, .mov (.v 0), none⟩, ⟨none, .mov (.v 4), none⟩, ⟨none, .iaddr 1 (.r 0) (.r 1), none⟩, ⟨none, .load false 1 (.r 2), none⟩, ⟨none, .mov (.r 3), none⟩, ⟨none, .mov (.v 1), some (4, true)⟩, ⟨none, .mov (.v 4), some (4, true)⟩, ⟨none, .iaddr 1 (.r 5) (.r 6), some (4, true)⟩, ⟨none, .load false 1 (.r 7), some (4, true)⟩, ⟨some 8, .pick (.r 4) (.r 8) (.c (.bool false)), none⟩])
  (.cond (.v 8) (.region false [] [⟨none, .mov (.v 3), none⟩, ⟨none, .mov (.v 4), none⟩, ⟨none, .bslice false t_int true 1 [(.r 1)], none⟩, ⟨none, .append t_int true 1 (.r 0) (.r 2), none⟩, ⟨some 3, .mov (.r 3), none⟩]) .skip))))
  (.region false [] [⟨none, .bin false .add (.v 6) (.c (.int .i64 1)), none⟩, ⟨some 6, .mov (.r 0), none⟩])))))))
  (.seq (.region false [] [⟨none, .mov (.v 3), none⟩, ⟨some 2, .mov (.r 0), none⟩])
  .ret)))),
  [.v 2]⟩
def ir_spec_OnWay : IFun := ⟨[0, 1, 2, 3, 6, 7, 8, 9, 10, 11, 12, 31],
  (.seq (.region false [] [⟨some 3, .box t_impl_Net 2 (.v 0), none⟩, ⟨some 4, .nilrow t_int true 1, none⟩, ⟨some 5, .nilrow t_int true 1, none⟩, ⟨some 6, .mov (.c (.bool false)), none⟩])
  (.seq (.seq (.region false [] [⟨none, .load true 2 (.v 3), none⟩, ⟨none, .call false f_spec_GoodNet [(.r 0)], none⟩, ⟨none, .not (.r 1), none⟩, ⟨none, .mov (.r 2), none⟩, ⟨none, .mov (.v 1), some (3, false)⟩, ⟨none, .faddr 0 (.v 3), some (3, false)⟩, ⟨none, .load false 1 (.r 5), some (3, false)⟩, ⟨none, .bin false .sub (.r 6) (.c (.int .i64 1)), some (3, false)⟩, ⟨none, .call false f_spec_l1In [(.r 4), (.c (.int .i64 0)), (.r 7)], some (3, false)⟩, ⟨none, .not (.r 8), some (3, false)⟩, ⟨none, .pick (.r 3) (.c (.bool true)) (.r 9), none⟩, ⟨none, .mov (.r 10), none⟩, ⟨none, .mov (.v 2), some (11, false)⟩, ⟨none, .faddr 0 (.v 3), some (11, false)⟩, ⟨none, .load false 1 (.r 13), some (11, false)⟩, ⟨none, .bin false .sub (.r 14) (.c (.int .i64 1)), some (11, false)⟩, ⟨none, .call false f_spec_l1In [(.r 12), (.c (.int .i64 0)), (.r 15)], some (11, false)⟩, ⟨none, .not (.r 16), some (11, false)⟩, ⟨some 11, .pick (.r 11) (.c (.bool true)) (.r 17), none⟩])
  (.cond (.v 11) (.seq (.region false [] [⟨some 4, .nilrow t_int true 1, none⟩, ⟨some 5, .nilrow t_int true 1, none⟩, ⟨some 6, .mov (.c (.bool false)), none⟩])
  .ret) .skip))
  (.seq (.region false [] [⟨none, .load true 2 (.v 3), none⟩, ⟨none, .mov (.v 1), none⟩, ⟨none, .call false f_spec_l3Forward [(.r 0), (.r 1)], none⟩, ⟨none, .mov (.r 2), none⟩, ⟨none, .extract (.r 3) 0, none⟩, ⟨none, .extract (.r 3) 1, none⟩, ⟨some 7, .mov (.r 4), none⟩, ⟨some 8, .mov (.r 5), none⟩])
  (.seq (.region false [] [⟨none, .load true 2 (.v 3), none⟩, ⟨none, .mov (.v 2), none⟩, ⟨none, .call false f_spec_l3Back [(.r 0), (.r 1)], none⟩, ⟨none, .mov (.r 2), none⟩, ⟨none, .extract (.r 3) 0, none⟩, ⟨none, .extract (.r 3) 1, none⟩, ⟨some 9, .mov (.r 4), none⟩, ⟨some 10, .mov (.r 5), none⟩])
  (.seq (.region false [] [⟨none, .mov (.v 7), none⟩, ⟨none, .mov (.v 9), none⟩, ⟨none, .call false f_spec_l3Both [(.r 0), (.r 1)], none⟩, ⟨none, .mov (.v 8), none⟩, ⟨none, .mov (.v 10), none⟩, ⟨none, .call false f_spec_l3Both [(.r 3), (.r 4)], none⟩, ⟨some 4, .mov (.r 2), none⟩, ⟨some 5, .mov (.r 5), none⟩, ⟨some 6, .mov (.c (.bool true)), none⟩])
  .ret))))),
  [.v 4, .v 5, .v 6]⟩
def ir_spec_l1Has : IFun := ⟨[0, 1, 4, 6, 7, 8, 9, 10, 15],
  (.seq (.region false [] [⟨some 2, .mov (.c (.bool false)), none⟩])
  (.seq (.seq (.region false [] [⟨some 4, .mov (.v 0), none⟩, ⟨some 5, .len false (.v 4), none⟩, ⟨some 6, .mov (.c (.int .i64 0)), none⟩])
  (.block 0 (.loop [false, true, false, false, true, true, true, false, false] (.seq (.region false [] [⟨some 7, .bin false .lss (.v 6) (.v 5), none⟩])
  (.seq (.cond (.v 7) .skip (.exit 0))
  (.seq (.block 1 (.seq (.region false [] [⟨none, .iaddr 1 (.v 4) (.v 6), none⟩, ⟨none, .load false 1 (.r 0), none⟩, ⟨some 3, .mov (.r 1), none⟩])
  (.seq (.region false [] [⟨none, .mov (.v 3), none⟩, ⟨none, .mov (.v 1), none⟩, ⟨some 8, .bin false .eql (.r 0) (.r 1), none⟩])
  (.cond (.v 8) (.seq (.region false [] [⟨some 2, .mov (.c (.bool true)), none⟩])
  .ret) .skip))))
  (.region false [] [⟨none, .bin false .add (.v 6) (.c (.int .i64 1)), none⟩, ⟨some 6, .mov (.r 0), none⟩])))))))
  (.seq (.region false [] [⟨some 2, .mov (.c (.bool false)), none⟩])
  .ret))),
  [.v 2]⟩
def ir_spec_GoodFlow : IFun := ⟨[0, 1, 2, 3, 4, 5, 7, 44, 47, 48, 49, 50, 78],
  (.seq (.region false [] [⟨some 1, .box t_impl_Flow 4 (.v 0), none⟩, ⟨some 2, .mov (.c (.bool false)), none⟩])
  (.seq (.region false [] [⟨none, .faddr 0 (.v 1), none⟩, ⟨none, .load true 2 (.r 0), none⟩, ⟨none, .faddr 2 (.v 1), none⟩, ⟨none, .load false 1 (.r 2), none⟩, ⟨none, .faddr 3 (.v 1), none⟩, ⟨none, .load false 1 (.r 4), none⟩, ⟨none, .call false f_spec_OnWay [(.r 1), (.r 3), (.r 5)], none⟩, ⟨none, .mov (.r 6), none⟩, ⟨none, .extract (.r 7) 0, none⟩, ⟨none, .extract (.r 7) 1, none⟩, ⟨none, .extract (.r 7) 2, none⟩, ⟨some 3, .mov (.r 8), none⟩, ⟨some 4, .mov (.r 9), none⟩, ⟨some 5, .mov (.r 10), none⟩])
  (.seq (.seq (.region false [] [⟨none, .mov (.v 5), none⟩, ⟨none, .not (.r 0), none⟩, ⟨none, .mov (.r 1), none⟩, ⟨none, .faddr 2 (.v 1), some (2, false)⟩, ⟨none, .load false 1 (.r 3), some (2, false)⟩, ⟨none, .faddr 3 (.v 1), some (2, false)⟩, ⟨none, .load false 1 (.r 5), some (2, false)⟩, ⟨none, .bin false .eql (.r 4) (.r 6), some (2, false)⟩, ⟨none, .pick (.r 2) (.c (.bool true)) (.r 7), none⟩, ⟨none, .mov (.r 8), none⟩, ⟨none, .mov (.v 3), some (9, false)⟩, ⟨none, .len false (.r 10), some (9, false)⟩, ⟨none, .faddr 0 (.v 1), some (9, false)⟩, ⟨none, .faddr 0 (.r 12), some (9, false)⟩, ⟨none, .load false 1 (.r 13), some (9, false)⟩, ⟨none, .bin false .neq (.r 11) (.r 14), some (9, false)⟩, ⟨none, .pick (.r 9) (.c (.bool true)) (.r 15), none⟩, ⟨none, .mov (.r 16), none⟩, ⟨none, .mov (.v 4), some (17, false)⟩, ⟨none, .len false (.r 18), some (17, false)⟩, ⟨none, .faddr 0 (.v 1), some (17, false)⟩, ⟨none, .faddr 1 (.r 20), some (17, false)⟩, ⟨none, .load false 1 (.r 21), some (17, false)⟩, ⟨none, .len false (.r 22), some (17, false)⟩, ⟨none, .bin false .neq (.r 19) (.r 23), some (17, false)⟩, ⟨some 7, .pick (.r 17) (.c (.bool true)) (.r 24), none⟩])
  (.cond (.v 7) (.seq (.region false [] [⟨some 2, .mov (.c (.bool false)), none⟩])
  .ret) .skip))
  (.seq (.seq (.region false [] [⟨none, .faddr 0 (.v 1), none⟩, ⟨none, .faddr 1 (.r 0), none⟩, ⟨some 8, .load false 1 (.r 1), none⟩, ⟨some 9, .len false (.v 8), none⟩, ⟨some 10, .mov (.c (.int .i64 0)), none⟩])
  (.block 0 (.loop [false, true, false, false, false, false, false, false, true, true, true, false, false] (.seq (.region false [] [⟨some 11, .bin false .lss (.v 10) (.v 9), none⟩])
  (.seq (.cond (.v 11) .skip (.exit 0))
  (.seq (.block 1 (.seq (.region false [] [⟨none, .iaddr 3 (.v 8) (.v 10), none⟩, ⟨none, .load true 3 (.r 0), none⟩, ⟨some 6, .alloc t_impl_Trans [(.nil true 1), (.nil true 1), (.nil true 1)], none⟩, ⟨none, .store 3 (.v 6) (.r 1), none⟩])
  (.seq (.region false [] [⟨none, .faddr 1 (.v 6), none⟩, ⟨none, .load false 1 (.r 0), none⟩, ⟨none, .faddr 2 (.v 1), none⟩, ⟨none, .load false 1 (.r 2), none⟩, ⟨none, .call false f_spec_l1Has [(.r 1), (.r 3)], none⟩, ⟨none, .mov (.r 4), none⟩, ⟨none, .faddr 0 (.v 6), some (5, false)⟩, ⟨none, .load false 1 (.r 6), some (5, false)⟩, ⟨none, .faddr 3 (.v 1), some (5, false)⟩, ⟨none, .load false 1 (.r 8), some (5, false)⟩, ⟨none, .call false f_spec_l1Has [(.r 7), (.r 9)], some (5, false)⟩, ⟨none, .pick (.r 5) (.c (.bool true)) (.r 10), none⟩, ⟨none, .mov (.r 11), none⟩, ⟨none, .faddr 2 (.v 6), some (12, false)⟩, ⟨none, .load false 1 (.r 13), some (12, false)⟩, ⟨none, .faddr 2 (.v 1), some (12, false)⟩, ⟨none, .load false 1 (.r 15), some (12, false)⟩, ⟨none, .call false f_spec_l1Has [(.r 14), (.r 16)], some (12, false)⟩, ⟨none, .pick (.r 12) (.c (.bool true)) (.r 17), none⟩, ⟨none, .mov (.r 18), none⟩, ⟨none, .faddr 2 (.v 6), some (19, false)⟩, ⟨none, .load false 1 (.r 20), some (19, false)⟩, ⟨none, .faddr 3 (.v 1), some (19, false)⟩, ⟨none, .load false 1 (.r 22), some (19, false)⟩, ⟨none, .call false f_spec_l1Has [(.r 21), (.r 23)], some (19, false)⟩, ⟨some 12, .pick (.r 19) (.c (.bool true)) (.r 24), none⟩])
  (.cond (.v 12) (.seq (.region false [] [⟨some 2, .mov (.c (.bool false)), none⟩])
  .ret) .skip))))
  (.region false [] [⟨none, .bin false .add (.v 10) (.c (.int .i64 1)), none⟩, ⟨some 10, .mov (.r 0), none⟩])))))))
  (.seq (.region false [] [⟨some 2, .mov (.c (.bool true)), none⟩])
  .ret))))),
  [.v 2]⟩
def ir_spec_l2Resets : IFun := ⟨[0, 1, 2, 4, 6, 7, 8, 9, 15],
  (.seq (.region false [] [⟨some 1, .box t_impl_Net 2 (.v 0), none⟩, ⟨some 2, .mov (.c (.bool false)), none⟩])
  (.seq (.seq (.region false [] [⟨none, .faddr 1 (.v 1), none⟩, ⟨some 4, .load false 1 (.r 0), none⟩, ⟨some 5, .len false (.v 4), none⟩, ⟨some 6, .mov (.c (.int .i64 0)), none⟩])
  (.block 0 (.loop [false, false, false, false, true, true, true, false, false] (.seq (.region false [] [⟨some 7, .bin false .lss (.v 6) (.v 5), none⟩])
  (.seq (.cond (.v 7) .skip (.exit 0))
  (.seq (.block 1 (.seq (.region false [] [⟨none, .iaddr 3 (.v 4) (.v 6), none⟩, ⟨none, .load true 3 (.r 0), none⟩, ⟨some 3, .alloc t_impl_Trans [(.nil true 1), (.nil true 1), (.nil true 1)], none⟩, ⟨none, .store 3 (.v 3) (.r 1), none⟩])
  (.seq (.region false [] [⟨none, .faddr 2 (.v 3), none⟩, ⟨none, .load false 1 (.r 0), none⟩, ⟨none, .len false (.r 1), none⟩, ⟨some 8, .bin false .gtr (.r 2) (.c (.int .i64 0)), none⟩])
  (.cond (.v 8) (.seq (.region false [] [⟨some 2, .mov (.c (.bool true)), none⟩])
  .ret) .skip))))
  (.region false [] [⟨none, .bin false .add (.v 6) (.c (.int .i64 1)), none⟩, ⟨some 6, .mov (.r 0), none⟩])))))))
  (.seq (.region false [] [⟨some 2, .mov (.c (.bool false)), none⟩])
  .ret))),
  [.v 2]⟩
def ir_spec_l10Asked : IFun := ⟨[0, 1, 2],
  (.seq (.region false [] [⟨some 1, .box t_impl_Flow 4 (.v 0), none⟩, ⟨some 2, .mov (.c (.bool false)), none⟩])
  (.seq (.region false [] [⟨none, .load true 4 (.v 1), none⟩, ⟨none, .call false f_spec_GoodFlow [(.r 0)], none⟩, ⟨none, .mov (.r 1), none⟩, ⟨none, .faddr 0 (.v 1), some (2, true)⟩, ⟨none, .load true 2 (.r 3), some (2, true)⟩, ⟨none, .call false f_spec_l2Resets [(.r 4)], some (2, true)⟩, ⟨none, .not (.r 5), some (2, true)⟩, ⟨none, .pick (.r 2) (.r 6) (.c (.bool false)), none⟩, ⟨some 2, .mov (.r 7), none⟩])
  .ret)),
  [.v 2]⟩
def ir_spec_l2Takers : IFun := ⟨[0, 1, 2, 4, 5, 6, 7, 9, 10, 11, 12, 19],
  (.seq (.region false [] [⟨some 2, .box t_impl_Net 2 (.v 0), none⟩, ⟨some 3, .nilrow t_int true 1, none⟩])
  (.seq (.region false [] [⟨some 4, .nilrow t_int true 1, none⟩])
  (.seq (.seq (.region false [] [⟨none, .faddr 1 (.v 2), none⟩, ⟨some 7, .load false 1 (.r 0), none⟩, ⟨some 8, .len false (.v 7), none⟩, ⟨some 9, .mov (.c (.int .i64 0)), none⟩])
  (.block 0 (.loop [false, true, false, false, true, false, false, true, true, true, false, false] (.seq (.region false [] [⟨some 10, .bin false .lss (.v 9) (.v 8), none⟩])
  (.seq (.cond (.v 10) .skip (.exit 0))
  (.seq (.block 1 (.seq (.region false [] [⟨none, .mov (.v 9), none⟩, ⟨none, .iaddr 3 (.v 7) (.v 9), none⟩, ⟨none, .load true 3 (.r 1), none⟩, ⟨some 6, .alloc t_impl_Trans [(.nil true 1), (.nil true 1), (.nil true 1)], none⟩, ⟨some 5, .mov (.r 0), none⟩, ⟨none, .store 3 (.v 6) (.r 2), none⟩])
  (.seq (.region false [] [⟨none, .faddr 0 (.v 6), none⟩, ⟨none, .load false 1 (.r 0), none⟩, ⟨none, .mov (.v 1), none⟩, ⟨some 11, .call false f_spec_l1Has [(.r 1), (.r 2)], none⟩])
  (.cond (.v 11) (.region false [] [⟨none, .mov (.v 4), none⟩, ⟨none, .mov (.v 5), none⟩, ⟨none, .bslice false t_int true 1 [(.r 1)], none⟩, ⟨none, .append t_int true 1 (.r 0) (.r 2), none⟩, ⟨some 4, .mov (.r 3), none⟩]) .skip))))
  (.region false [] [⟨none, .bin false .add (.v 9) (.c (.int .i64 1)), none⟩, ⟨some 9, .mov (.r 0), none⟩])))))))
  (.seq (.region false [] [⟨none, .mov (.v 4), none⟩, ⟨some 3, .mov (.r 0), none⟩])
  .ret)))),
  [.v 3]⟩
def ir_spec_l10Apart : IFun := ⟨[0, 1, 2, 3, 6, 8, 11, 12, 13, 14, 26],
  (.seq (.region false [] [⟨some 3, .box t_impl_Flow 4 (.v 0), none⟩, ⟨some 4, .mov (.c (.bool false)), none⟩])
  (.seq (.seq (.region false [] [⟨none, .faddr 0 (.v 3), none⟩, ⟨none, .faddr 1 (.r 0), none⟩, ⟨some 6, .load false 1 (.r 1), none⟩, ⟨some 7, .len false (.v 6), none⟩, ⟨some 8, .mov (.c (.int .i64 0)), none⟩])
  (.block 0 (.loop [false, true, true, false, false, false, true, true, true, false, false] (.seq (.region false [] [⟨some 9, .bin false .lss (.v 8) (.v 7), none⟩])
  (.seq (.cond (.v 9) .skip (.exit 0))
  (.seq (.block 1 (.seq (.region false [] [⟨none, .iaddr 3 (.v 6) (.v 8), none⟩, ⟨none, .load true 3 (.r 0), none⟩, ⟨some 5, .alloc t_impl_Trans [(.nil true 1), (.nil true 1), (.nil true 1)], none⟩, ⟨none, .store 3 (.v 5) (.r 1), none⟩])
  (.seq (.region false [] [⟨none, .faddr 1 (.v 5), none⟩, ⟨none, .load false 1 (.r 0), none⟩, ⟨none, .mov (.v 1), none⟩, ⟨none, .call false f_spec_l1Has [(.r 1), (.r 2)], none⟩, ⟨none, .mov (.r 3), none⟩, ⟨none, .faddr 1 (.v 5), some (4, true)⟩, ⟨none, .load false 1 (.r 5), some (4, true)⟩, ⟨none, .mov (.v 2), some (4, true)⟩, ⟨none, .call false f_spec_l1Has [(.r 6), (.r 7)], some (4, true)⟩, ⟨some 10, .pick (.r 4) (.r 8) (.c (.bool false)), none⟩])
  (.cond (.v 10) (.seq (.region false [] [⟨some 4, .mov (.c (.bool false)), none⟩])
  .ret) .skip))))
  (.region false [] [⟨none, .bin false .add (.v 8) (.c (.int .i64 1)), none⟩, ⟨some 8, .mov (.r 0), none⟩])))))))
  (.seq (.region false [] [⟨some 4, .mov (.c (.bool true)), none⟩])
  .ret))),
  [.v 4]⟩
def ir_spec_l1Own : IFun := ⟨[0, 2],
  (.seq (.region false [] [⟨some 1, .nilrow t_int true 1, none⟩])
  (.seq (.region false [] [⟨none, .bslice false t_int true 1 [], none⟩, ⟨none, .mov (.v 0), none⟩, ⟨none, .append t_int true 1 (.r 0) (.r 1), none⟩, ⟨some 1, .mov (.r 2), none⟩])
  .ret)),
  [.v 1]⟩
def ir_spec_l3Own : IFun := ⟨[0, 1, 2, 3, 5, 10, 11, 12, 13],
  (.seq (.region false [] [⟨some 1, .box t_impl_Net 2 (.v 0), none⟩, ⟨some 2, .alloc t_impl_Net [(.int .i64 0), (.nil false 3)], none⟩])
  (.seq (.region false [] [⟨none, .faddr 0 (.v 1), none⟩, ⟨none, .load false 1 (.r 0), none⟩, ⟨none, .build [(.int .i64 0), (.nil false 3)] [(0, 1, (.r 1))], none⟩, ⟨some 3, .alloc t_impl_Net [(.int .i64 0), (.nil false 3)], none⟩, ⟨none, .store 2 (.v 3) (.r 2), none⟩])
  (.seq (.seq (.region false [] [⟨none, .faddr 1 (.v 1), none⟩, ⟨some 5, .load false 1 (.r 0), none⟩, ⟨some 6, .len false (.v 5), none⟩, ⟨some 7, .mov (.c (.int .i64 0)), none⟩])
  (.block 0 (.loop [false, false, true, true, false, true, true, true, false] (.seq (.region false [] [⟨some 8, .bin false .lss (.v 7) (.v 6), none⟩])
  (.seq (.cond (.v 8) .skip (.exit 0))
  (.seq (.block 1 (.seq (.region false [] [⟨none, .iaddr 3 (.v 5) (.v 7), none⟩, ⟨none, .load true 3 (.r 0), none⟩, ⟨some 4, .alloc t_impl_Trans [(.nil true 1), (.nil true 1), (.nil true 1)], none⟩, ⟨none, .store 3 (.v 4) (.r 1), none⟩])
  (.region true [(8, 1), (8, 5), (8, 7), (9, 1), (9, 7), (10, 1), (12, 1)] [⟨none, .faddr 1 (.v 3), none⟩, ⟨none, .load false 1 (.r 0), none⟩, ⟨none, .faddr 0 (.v 4), none⟩, ⟨none, .load false 1 (.r 2), none⟩, ⟨none, .faddr 1 (.v 4), none⟩, ⟨none, .load false 1 (.r 4), none⟩, ⟨none, .faddr 2 (.v 4), none⟩, ⟨none, .load false 1 (.r 6), none⟩, ⟨none, .call false f_spec_l1Own [(.r 3)], none⟩, ⟨none, .call false f_spec_l1Own [(.r 5)], none⟩, ⟨none, .call false f_spec_l1Own [(.r 7)], none⟩, ⟨none, .build [(.nil true 1), (.nil true 1), (.nil true 1)] [(0, 1, (.r 8)), (1, 1, (.r 9)), (2, 1, (.r 10))], none⟩, ⟨none, .bslice false t_impl_Trans false 3 [(.r 11)], none⟩, ⟨none, .append t_impl_Trans false 3 (.r 1) (.r 12), none⟩, ⟨none, .faddr 1 (.v 3), none⟩, ⟨none, .store 1 (.r 14) (.r 13), none⟩])))
  (.region false [] [⟨none, .bin false .add (.v 7) (.c (.int .i64 1)), none⟩, ⟨some 7, .mov (.r 0), none⟩])))))))
  (.seq (.region false [] [⟨none, .load true 2 (.v 3), none⟩, ⟨none, .store 2 (.v 2) (.r 0), none⟩])
  .ret)))),
  [.cell true 2 2]⟩
def ir_spec_l8Without : IFun := ⟨[0, 1, 4, 5, 7, 8, 9, 10, 11, 17],
  (.seq (.region false [] [⟨some 2, .nilrow t_int true 1, none⟩])
  (.seq (.region false [] [⟨some 3, .nilrow t_int true 1, none⟩])
  (.seq (.seq (.region false [] [⟨some 5, .mov (.v 0), none⟩, ⟨some 6, .len false (.v 5), none⟩, ⟨some 7, .mov (.c (.int .i64 0)), none⟩])
  (.block 0 (.loop [false, true, false, true, false, true, true, true, false, false] (.seq (.region false [] [⟨some 8, .bin false .lss (.v 7) (.v 6), none⟩])
  (.seq (.cond (.v 8) .skip (.exit 0))
  (.seq (.block 1 (.seq (.region false [] [⟨none, .iaddr 1 (.v 5) (.v 7), none⟩, ⟨none, .load false 1 (.r 0), none⟩, ⟨some 4, .mov (.r 1), none⟩])
  (.seq (.region false [] [⟨none, .mov (.v 1), none⟩, ⟨none, .mov (.v 4), none⟩, ⟨none, .call false f_spec_l1Has [(.r 0), (.r 1)], none⟩, ⟨some 9, .not (.r 2), none⟩])
  (.cond (.v 9) (.region false [] [⟨none, .mov (.v 3), none⟩, ⟨none, .mov (.v 4), none⟩, ⟨none, .bslice false t_int true 1 [(.r 1)], none⟩, ⟨none, .append t_int true 1 (.r 0) (.r 2), none⟩, ⟨some 3, .mov (.r 3), none⟩]) .skip))))
  (.region false [] [⟨none, .bin false .add (.v 7) (.c (.int .i64 1)), none⟩, ⟨some 7, .mov (.r 0), none⟩])))))))
  (.seq (.region false [] [⟨none, .mov (.v 3), none⟩, ⟨some 2, .mov (.r 0), none⟩])
  .ret)))),
  [.v 2]⟩
def ir_spec_l1Put : IFun := ⟨[0, 1, 4, 5, 6, 18, 32],
  (.seq (.region false [] [⟨some 2, .nilrow t_int true 1, none⟩])
  (.seq (.region false [] [⟨some 3, .mov (.c (.int .i64 0)), none⟩])
  (.seq (.block 0 (.loop [true, true, false, true, false, false, false] (.seq (.seq (.region false [] [⟨none, .mov (.v 3), none⟩, ⟨none, .mov (.v 0), none⟩, ⟨none, .len false (.r 1), none⟩, ⟨none, .bin false .lss (.r 0) (.r 2), none⟩, ⟨none, .mov (.r 3), none⟩, ⟨none, .mov (.v 0), some (4, true)⟩, ⟨none, .mov (.v 3), some (4, true)⟩, ⟨none, .iaddr 1 (.r 5) (.r 6), some (4, true)⟩, ⟨none, .load false 1 (.r 7), some (4, true)⟩, ⟨none, .mov (.v 1), some (4, true)⟩, ⟨none, .bin false .lss (.r 8) (.r 9), some (4, true)⟩, ⟨some 5, .pick (.r 4) (.r 10) (.c (.bool false)), none⟩])
  (.cond (.v 5) .skip (.exit 0)))
  (.block 1 (.region false [] [⟨none, .mov (.v 3), none⟩, ⟨none, .bin false .add (.r 0) (.c (.int .i64 1)), none⟩, ⟨some 3, .mov (.r 1), none⟩])))))
  (.seq (.seq (.region false [] [⟨none, .mov (.v 3), none⟩, ⟨none, .mov (.v 0), none⟩, ⟨none, .len false (.r 1), none⟩, ⟨none, .bin false .lss (.r 0) (.r 2), none⟩, ⟨none, .mov (.r 3), none⟩, ⟨none, .mov (.v 0), some (4, true)⟩, ⟨none, .mov (.v 3), some (4, true)⟩, ⟨none, .iaddr 1 (.r 5) (.r 6), some (4, true)⟩, ⟨none, .load false 1 (.r 7), some (4, true)⟩, ⟨none, .mov (.v 1), some (4, true)⟩, ⟨none, .bin false .eql (.r 8) (.r 9), some (4, true)⟩, ⟨some 6, .pick (.r 4) (.r 10) (.c (.bool false)), none⟩])
  (.cond (.v 6) (.seq (.region false [] [⟨none, .mov (.v 0), none⟩, ⟨some 2, .mov (.r 0), none⟩])
  .ret) .skip))
  (.seq (.region false [] [⟨none, .bslice false t_int true 1 [], none⟩, ⟨none, .mov (.v 0), none⟩, ⟨none, .mov (.v 3), none⟩, ⟨none, .slice 1 (.r 1) none (some (.r 2)), none⟩, ⟨none, .append t_int true 1 (.r 0) (.r 3), none⟩, ⟨some 4, .mov (.r 4), none⟩])
  (.seq (.region false [] [⟨none, .mov (.v 4), none⟩, ⟨none, .mov (.v 1), none⟩, ⟨none, .bslice false t_int true 1 [(.r 1)], none⟩, ⟨none, .append t_int true 1 (.r 0) (.r 2), none⟩, ⟨some 4, .mov (.r 3), none⟩])
  (.seq (.region false [] [⟨none, .mov (.v 4), none⟩, ⟨none, .mov (.v 0), none⟩, ⟨none, .mov (.v 3), none⟩, ⟨none, .slice 1 (.r 1) (some (.r 2)) none, none⟩, ⟨none, .append t_int true 1 (.r 0) (.r 3), none⟩, ⟨some 2, .mov (.r 4), none⟩])
  .ret))))))),
  [.v 2]⟩
def ir_spec_l10Leave : IFun := ⟨[0, 1, 2, 3, 6, 7, 8, 9, 10, 11, 12, 14, 16, 23, 24, 25, 32, 48, 49, 50, 51, 57, 59, 60, 61, 62, 67, 79, 80, 81, 82, 87],
  (.seq (.region false [] [⟨some 3, .box t_impl_Flow 4 (.v 0), none⟩, ⟨some 4, .alloc t_impl_Flow [(.int .i64 0), (.nil false 3), (.int .i64 0), (.int .i64 0)], none⟩])
  (.seq (.region false [] [⟨none, .faddr 0 (.v 3), none⟩, ⟨none, .faddr 0 (.r 0), none⟩, ⟨none, .load false 1 (.r 1), none⟩, ⟨none, .mk t_int true 1 (.int .i64 0) (.r 2), none⟩, ⟨some 5, .mov (.r 3), none⟩])
  (.seq (.region false [] [⟨none, .build [(.int .i64 0), (.nil false 3), (.int .i64 0), (.int .i64 0)] [], none⟩, ⟨some 6, .alloc t_impl_Flow [(.int .i64 0), (.nil false 3), (.int .i64 0), (.int .i64 0)], none⟩, ⟨none, .store 4 (.v 6) (.r 0), none⟩])
  (.seq (.seq (.region false [] [⟨none, .mov (.v 5), none⟩, ⟨some 13, .len false (.r 0), none⟩, ⟨some 14, .mov (.c (.int .i64 0)), none⟩])
  (.block 0 (.loop [false, true, true, true, true, true, true, false, false, false, false, false, false, true, true, false, false, false, false, false, false, false, false, false, false, false, false, false, false, false, false, false] (.seq (.region false [] [⟨some 15, .bin false .lss (.v 14) (.v 13), none⟩])
  (.seq (.cond (.v 15) .skip (.exit 0))
  (.seq (.block 1 (.seq (.region false [] [⟨none, .mov (.v 14), none⟩, ⟨some 7, .mov (.r 0), none⟩])
  (.seq (.region false [] [⟨none, .mov (.v 5), none⟩, ⟨none, .mov (.v 7), none⟩, ⟨none, .iaddr 1 (.r 0) (.r 1), none⟩, ⟨none, .store 1 (.r 2) (.c (.int .i64 (-1))), none⟩])
  (.seq (.region false [] [⟨none, .mov (.v 7), none⟩, ⟨none, .mov (.v 1), none⟩, ⟨some 16, .bin false .neq (.r 0) (.r 1), none⟩])
  (.cond (.v 16) (.seq (.region false [] [⟨none, .mov (.v 5), none⟩, ⟨none, .mov (.v 7), none⟩, ⟨none, .faddr 0 (.v 6), none⟩, ⟨none, .faddr 0 (.r 2), none⟩, ⟨none, .load false 1 (.r 3), none⟩, ⟨none, .iaddr 1 (.r 0) (.r 1), none⟩, ⟨none, .store 1 (.r 5) (.r 4), none⟩])
  (.region false [] [⟨none, .faddr 0 (.v 6), none⟩, ⟨none, .faddr 0 (.r 0), none⟩, ⟨none, .load false 1 (.r 1), none⟩, ⟨none, .bin false .add (.r 2) (.c (.int .i64 1)), none⟩, ⟨none, .faddr 0 (.v 6), none⟩, ⟨none, .faddr 0 (.r 4), none⟩, ⟨none, .store 1 (.r 5) (.r 3), none⟩])) .skip)))))
  (.region false [] [⟨none, .bin false .add (.v 14) (.c (.int .i64 1)), none⟩, ⟨some 14, .mov (.r 0), none⟩])))))))
  (.seq (.seq (.region false [] [⟨none, .faddr 0 (.v 3), none⟩, ⟨none, .faddr 1 (.r 0), none⟩, ⟨some 17, .load false 1 (.r 1), none⟩, ⟨some 18, .len false (.v 17), none⟩, ⟨some 19, .mov (.c (.int .i64 0)), none⟩])
  (.block 2 (.loop [false, true, true, true, true, true, true, false, false, false, false, false, false, false, false, false, false, true, true, true, false, false, false, false, false, false, false, false, false, false, false, false] (.seq (.region false [] [⟨some 20, .bin false .lss (.v 19) (.v 18), none⟩])
  (.seq (.cond (.v 20) .skip (.exit 2))
  (.seq (.block 3 (.seq (.region false [] [⟨none, .mov (.v 19), none⟩, ⟨none, .iaddr 3 (.v 17) (.v 19), none⟩, ⟨none, .load true 3 (.r 1), none⟩, ⟨some 9, .alloc t_impl_Trans [(.nil true 1), (.nil true 1), (.nil true 1)], none⟩, ⟨some 8, .mov (.r 0), none⟩, ⟨none, .store 3 (.v 9) (.r 2), none⟩])
  (.seq (.seq (.region false [] [⟨none, .mov (.v 8), none⟩, ⟨none, .mov (.v 2), none⟩, ⟨some 21, .bin false .eql (.r 0) (.r 1), none⟩])
  (.cond (.v 21) (.exit 3) .skip))
  (.seq (.region false [] [⟨some 10, .alloc t_impl_Trans [(.nil true 1), (.nil true 1), (.nil true 1)], none⟩])
  (.seq (.seq (.region false [] [⟨none, .faddr 0 (.v 9), none⟩, ⟨some 22, .load false 1 (.r 0), none⟩, ⟨some 23, .len false (.v 22), none⟩, ⟨some 24, .mov (.c (.int .i64 0)), none⟩])
  (.block 4 (.loop [false, true, true, true, true, true, true, false, false, true, true, false, false, false, false, false, false, true, true, true, false, false, true, true, true, false, false, false, false, false, false, false] (.seq (.region false [] [⟨some 25, .bin false .lss (.v 24) (.v 23), none⟩])
  (.seq (.cond (.v 25) .skip (.exit 4))
  (.seq (.block 5 (.seq (.region false [] [⟨none, .iaddr 1 (.v 22) (.v 24), none⟩, ⟨none, .load false 1 (.r 0), none⟩, ⟨some 11, .mov (.r 1), none⟩])
  (.seq (.region false [] [⟨none, .mov (.v 11), none⟩, ⟨none, .mov (.v 1), none⟩, ⟨some 26, .bin false .neq (.r 0) (.r 1), none⟩])
  (.cond (.v 26) (.region true [(6, 1)] [⟨none, .faddr 0 (.v 10), none⟩, ⟨none, .load false 1 (.r 0), none⟩, ⟨none, .mov (.v 5), none⟩, ⟨none, .mov (.v 11), none⟩, ⟨none, .iaddr 1 (.r 2) (.r 3), none⟩, ⟨none, .load false 1 (.r 4), none⟩, ⟨none, .bslice false t_int true 1 [(.r 5)], none⟩, ⟨none, .append t_int true 1 (.r 1) (.r 6), none⟩, ⟨none, .faddr 0 (.v 10), none⟩, ⟨none, .store 1 (.r 8) (.r 7), none⟩]) .skip))))
  (.region false [] [⟨none, .bin false .add (.v 24) (.c (.int .i64 1)), none⟩, ⟨some 24, .mov (.r 0), none⟩])))))))
  (.seq (.seq (.region false [] [⟨none, .faddr 1 (.v 9), none⟩, ⟨some 27, .load false 1 (.r 0), none⟩, ⟨some 28, .len false (.v 27), none⟩, ⟨some 29, .mov (.c (.int .i64 0)), none⟩])
  (.block 6 (.loop [false, true, true, true, true, true, true, false, false, false, true, false, false, false, false, false, false, true, true, true, false, false, false, false, false, false, false, true, true, true, false, false] (.seq (.region false [] [⟨some 30, .bin false .lss (.v 29) (.v 28), none⟩])
  (.seq (.cond (.v 30) .skip (.exit 6))
  (.seq (.block 7 (.seq (.region false [] [⟨none, .iaddr 1 (.v 27) (.v 29), none⟩, ⟨none, .load false 1 (.r 0), none⟩, ⟨some 12, .mov (.r 1), none⟩])
  (.seq (.region false [] [⟨none, .mov (.v 12), none⟩, ⟨none, .mov (.v 1), none⟩, ⟨some 31, .bin false .neq (.r 0) (.r 1), none⟩])
  (.cond (.v 31) (.region true [(6, 1)] [⟨none, .faddr 1 (.v 10), none⟩, ⟨none, .load false 1 (.r 0), none⟩, ⟨none, .mov (.v 5), none⟩, ⟨none, .mov (.v 12), none⟩, ⟨none, .iaddr 1 (.r 2) (.r 3), none⟩, ⟨none, .load false 1 (.r 4), none⟩, ⟨none, .bslice false t_int true 1 [(.r 5)], none⟩, ⟨none, .append t_int true 1 (.r 1) (.r 6), none⟩, ⟨none, .faddr 1 (.v 10), none⟩, ⟨none, .store 1 (.r 8) (.r 7), none⟩]) .skip))))
  (.region false [] [⟨none, .bin false .add (.v 29) (.c (.int .i64 1)), none⟩, ⟨some 29, .mov (.r 0), none⟩])))))))
  (.region false [] [⟨none, .faddr 0 (.v 6), none⟩, ⟨none, .faddr 1 (.r 0), none⟩, ⟨none, .load false 1 (.r 1), none⟩, ⟨none, .load true 3 (.v 10), none⟩, ⟨none, .bslice false t_impl_Trans false 3 [(.r 3)], none⟩, ⟨none, .append t_impl_Trans false 3 (.r 2) (.r 4), none⟩, ⟨none, .faddr 0 (.v 6), none⟩, ⟨none, .faddr 1 (.r 6), none⟩, ⟨none, .store 1 (.r 7) (.r 5), none⟩])))))))
  (.region false [] [⟨none, .bin false .add (.v 19) (.c (.int .i64 1)), none⟩, ⟨some 19, .mov (.r 0), none⟩])))))))
  (.seq (.region false [] [⟨none, .mov (.v 5), none⟩, ⟨none, .faddr 2 (.v 3), none⟩, ⟨none, .load false 1 (.r 1), none⟩, ⟨none, .iaddr 1 (.r 0) (.r 2), none⟩, ⟨none, .load false 1 (.r 3), none⟩, ⟨none, .faddr 2 (.v 6), none⟩, ⟨none, .store 1 (.r 5) (.r 4), none⟩])
  (.seq (.region false [] [⟨none, .mov (.v 5), none⟩, ⟨none, .faddr 3 (.v 3), none⟩, ⟨none, .load false 1 (.r 1), none⟩, ⟨none, .iaddr 1 (.r 0) (.r 2), none⟩, ⟨none, .load false 1 (.r 3), none⟩, ⟨none, .faddr 3 (.v 6), none⟩, ⟨none, .store 1 (.r 5) (.r 4), none⟩])
  (.seq (.region false [] [⟨none, .load true 4 (.v 6), none⟩, ⟨none, .store 4 (.v 4) (.r 0), none⟩])
  .ret)))))))),
  [.cell true 4 4]⟩
def ir_spec_l10FusePlaces : IFun := ⟨[0, 1, 2, 3, 4, 5, 6, 7, 8, 9, 10, 13, 14, 15, 16, 49, 70, 81, 82, 83, 84, 91],
  (.seq (.region false [] [⟨some 1, .box t_impl_Flow 4 (.v 0), none⟩, ⟨some 2, .alloc t_impl_Flow [(.int .i64 0), (.nil false 3), (.int .i64 0), (.int .i64 0)], none⟩, ⟨some 3, .mov (.c (.bool false)), none⟩])
  (.seq (.seq (.region false [] [⟨none, .faddr 0 (.v 1), none⟩, ⟨none, .faddr 1 (.r 0), none⟩, ⟨some 11, .load false 1 (.r 1), none⟩, ⟨some 12, .len false (.v 11), none⟩, ⟨some 13, .mov (.c (.int .i64 0)), none⟩])
  (.block 0 (.loop [false, true, true, false, false, false, false, false, false, false, false, true, true, true, false, false, false, false, false, false, false, false] (.seq (.region false [] [⟨some 14, .bin false .lss (.v 13) (.v 12), none⟩])
  (.seq (.cond (.v 14) .skip (.exit 0))
  (.seq (.block 1 (.seq (.region false [] [⟨none, .mov (.v 13), none⟩, ⟨none, .iaddr 3 (.v 11) (.v 13), none⟩, ⟨none, .load true 3 (.r 1), none⟩, ⟨some 5, .alloc t_impl_Trans [(.nil true 1), (.nil true 1), (.nil true 1)], none⟩, ⟨some 4, .mov (.r 0), none⟩, ⟨none, .store 3 (.v 5) (.r 2), none⟩])
  (.seq (.seq (.region true [] [⟨none, .faddr 0 (.v 5), none⟩, ⟨none, .load false 1 (.r 0), none⟩, ⟨none, .len false (.r 1), none⟩, ⟨none, .bin false .neq (.r 2) (.c (.int .i64 1)), none⟩, ⟨none, .mov (.r 3), none⟩, ⟨none, .faddr 1 (.v 5), some (4, false)⟩, ⟨none, .load false 1 (.r 5), some (4, false)⟩, ⟨none, .len false (.r 6), some (4, false)⟩, ⟨none, .bin false .neq (.r 7) (.c (.int .i64 1)), some (4, false)⟩, ⟨none, .pick (.r 4) (.c (.bool true)) (.r 8), none⟩, ⟨none, .mov (.r 9), none⟩, ⟨none, .faddr 0 (.v 5), some (10, false)⟩, ⟨none, .load false 1 (.r 11), some (10, false)⟩, ⟨none, .iaddr 1 (.r 12) (.c (.int .i64 0)), some (10, false)⟩, ⟨none, .load false 1 (.r 13), some (10, false)⟩, ⟨none, .faddr 2 (.v 1), some (10, false)⟩, ⟨none, .load false 1 (.r 15), some (10, false)⟩, ⟨none, .bin false .eql (.r 14) (.r 16), some (10, false)⟩, ⟨none, .pick (.r 10) (.c (.bool true)) (.r 17), none⟩, ⟨none, .mov (.r 18), none⟩, ⟨none, .faddr 0 (.v 5), some (19, false)⟩, ⟨none, .load false 1 (.r 20), some (19, false)⟩, ⟨none, .iaddr 1 (.r 21) (.c (.int .i64 0)), some (19, false)⟩, ⟨none, .load false 1 (.r 22), some (19, false)⟩, ⟨none, .faddr 1 (.v 5), some (19, false)⟩, ⟨none, .load false 1 (.r 24), some (19, false)⟩, ⟨none, .iaddr 1 (.r 25) (.c (.int .i64 0)), some (19, false)⟩, ⟨none, .load false 1 (.r 26), some (19, false)⟩, ⟨none, .bin false .eql (.r 23) (.r 27), some (19, false)⟩, ⟨some 15, .pick (.r 19) (.c (.bool true)) (.r 28), none⟩])
  (.cond (.v 15) (.exit 1) .skip))
  (.seq (.region false [] [⟨none, .faddr 0 (.v 5), none⟩, ⟨none, .load false 1 (.r 0), none⟩, ⟨none, .iaddr 1 (.r 1) (.c (.int .i64 0)), none⟩, ⟨none, .load false 1 (.r 2), none⟩, ⟨some 6, .mov (.r 3), none⟩])
  (.seq (.region false [] [⟨none, .faddr 1 (.v 5), none⟩, ⟨none, .load false 1 (.r 0), none⟩, ⟨none, .iaddr 1 (.r 1) (.c (.int .i64 0)), none⟩, ⟨none, .load false 1 (.r 2), none⟩, ⟨some 7, .mov (.r 3), none⟩])
  (.seq (.seq (.region false [] [⟨none, .faddr 0 (.v 1), none⟩, ⟨none, .load true 2 (.r 0), none⟩, ⟨none, .mov (.v 6), none⟩, ⟨none, .call false f_spec_l2Takers [(.r 1), (.r 2)], none⟩, ⟨none, .len false (.r 3), none⟩, ⟨none, .bin false .neq (.r 4) (.c (.int .i64 1)), none⟩, ⟨none, .mov (.r 5), none⟩, ⟨none, .load true 4 (.v 1), some (6, false)⟩, ⟨none, .mov (.v 6), some (6, false)⟩, ⟨none, .mov (.v 7), some (6, false)⟩, ⟨none, .call false f_spec_l10Apart [(.r 7), (.r 8), (.r 9)], some (6, false)⟩, ⟨none, .not (.r 10), some (6, false)⟩, ⟨some 16, .pick (.r 6) (.c (.bool true)) (.r 11), none⟩])
  (.cond (.v 16) (.exit 1) .skip))
  (.seq (.region true [(7, 3), (7, 5)] [⟨none, .faddr 0 (.v 1), none⟩, ⟨none, .load true 2 (.r 0), none⟩, ⟨none, .faddr 2 (.v 1), none⟩, ⟨none, .load false 1 (.r 2), none⟩, ⟨none, .faddr 3 (.v 1), none⟩, ⟨none, .load false 1 (.r 4), none⟩, ⟨some 8, .alloc t_impl_Flow [(.int .i64 0), (.nil false 3), (.int .i64 0), (.int .i64 0)], none⟩, ⟨none, .call false f_spec_l3Own [(.r 1)], none⟩, ⟨none, .build [(.int .i64 0), (.nil false 3), (.int .i64 0), (.int .i64 0)] [(0, 2, (.r 7)), (2, 1, (.r 3)), (3, 1, (.r 5))], none⟩, ⟨none, .store 4 (.v 8) (.r 8), none⟩])
  (.seq (.seq (.region false [] [⟨none, .faddr 0 (.v 8), none⟩, ⟨none, .faddr 1 (.r 0), none⟩, ⟨some 17, .load false 1 (.r 1), none⟩, ⟨some 18, .len false (.v 17), none⟩, ⟨some 19, .mov (.c (.int .i64 0)), none⟩])
  (.block 2 (.loop [false, false, true, false, true, false, true, true, true, false, false, false, false, false, false, false, false, true, true, true, false, false] (.seq (.region false [] [⟨some 20, .bin false .lss (.v 19) (.v 18), none⟩])
  (.seq (.cond (.v 20) .skip (.exit 2))
  (.seq (.block 3 (.seq (.region false [] [⟨none, .mov (.v 19), none⟩, ⟨none, .iaddr 3 (.v 17) (.v 19), none⟩, ⟨none, .load true 3 (.r 1), none⟩, ⟨some 10, .alloc t_impl_Trans [(.nil true 1), (.nil true 1), (.nil true 1)], none⟩, ⟨some 9, .mov (.r 0), none⟩, ⟨none, .store 3 (.v 10) (.r 2), none⟩])
  (.seq (.region false [] [⟨none, .faddr 1 (.v 10), none⟩, ⟨none, .load false 1 (.r 0), none⟩, ⟨none, .mov (.v 6), none⟩, ⟨some 21, .call false f_spec_l1Has [(.r 1), (.r 2)], none⟩])
  (.cond (.v 21) (.region true [(8, 2), (8, 5), (9, 2), (10, 2)] [⟨none, .faddr 0 (.v 8), none⟩, ⟨none, .faddr 1 (.r 0), none⟩, ⟨none, .load false 1 (.r 1), none⟩, ⟨none, .mov (.v 9), none⟩, ⟨none, .faddr 1 (.v 10), none⟩, ⟨none, .load false 1 (.r 4), none⟩, ⟨none, .mov (.v 6), none⟩, ⟨none, .mov (.v 7), none⟩, ⟨none, .bslice false t_int true 1 [(.r 6)], none⟩, ⟨none, .call false f_spec_l8Without [(.r 5), (.r 8)], none⟩, ⟨none, .callm f_spec_l1Put [(.r 9), (.r 7)], none⟩, ⟨none, .iaddr 3 (.r 2) (.r 3), none⟩, ⟨none, .faddr 1 (.r 11), none⟩, ⟨none, .store 1 (.r 12) (.r 10), none⟩]) .skip))))
  (.region false [] [⟨none, .bin false .add (.v 19) (.c (.int .i64 1)), none⟩, ⟨some 19, .mov (.r 0), none⟩])))))))
  (.seq (.region false [] [⟨none, .load true 4 (.v 8), none⟩, ⟨none, .mov (.v 6), none⟩, ⟨none, .mov (.v 4), none⟩, ⟨none, .call false f_spec_l10Leave [(.r 0), (.r 1), (.r 2)], none⟩, ⟨none, .store 4 (.v 2) (.r 3), none⟩, ⟨some 3, .mov (.c (.bool true)), none⟩])
  .ret)))))))))
  (.region false [] [⟨none, .bin false .add (.v 13) (.c (.int .i64 1)), none⟩, ⟨some 13, .mov (.r 0), none⟩])))))))
  (.seq (.region false [] [⟨none, .build [(.int .i64 0), (.nil false 3), (.int .i64 0), (.int .i64 0)] [], none⟩, ⟨none, .store 4 (.v 2) (.r 0), none⟩, ⟨some 3, .mov (.c (.bool false)), none⟩])
  .ret))),
  [.cell true 4 2, .v 3]⟩
def ir_spec_FusePlaces : IFun := ⟨[0, 1, 2, 3, 6],
  (.seq (.region false [] [⟨some 1, .box t_impl_Flow 4 (.v 0), none⟩, ⟨some 2, .alloc t_impl_Flow [(.int .i64 0), (.nil false 3), (.int .i64 0), (.int .i64 0)], none⟩, ⟨some 3, .mov (.c (.bool false)), none⟩])
  (.seq (.seq (.region false [] [⟨none, .load true 4 (.v 1), none⟩, ⟨none, .call false f_spec_l10Asked [(.r 0)], none⟩, ⟨some 4, .not (.r 1), none⟩])
  (.cond (.v 4) (.seq (.region false [] [⟨none, .build [(.int .i64 0), (.nil false 3), (.int .i64 0), (.int .i64 0)] [], none⟩, ⟨none, .store 4 (.v 2) (.r 0), none⟩, ⟨some 3, .mov (.c (.bool false)), none⟩])
  .ret) .skip))
  (.seq (.region false [] [⟨none, .load true 4 (.v 1), none⟩, ⟨none, .call false f_spec_l10FusePlaces [(.r 0)], none⟩, ⟨none, .extract (.r 1) 0, none⟩, ⟨none, .extract (.r 1) 1, none⟩, ⟨none, .store 4 (.v 2) (.r 2), none⟩, ⟨some 3, .mov (.r 3), none⟩])
  .ret))),
  [.cell true 4 2, .v 3]⟩
def ir_impl_within : IFun := ⟨[0, 1, 2, 6],
  (.seq (.region false [] [⟨some 3, .mov (.c (.bool false)), none⟩])
  (.seq (.region false [] [⟨none, .mov (.v 0), none⟩, ⟨none, .mov (.v 1), none⟩, ⟨none, .bin false .geq (.r 0) (.r 1), none⟩, ⟨none, .mov (.r 2), none⟩, ⟨none, .mov (.v 0), some (3, true)⟩, ⟨none, .mov (.v 2), some (3, true)⟩, ⟨none, .bin false .leq (.r 4) (.r 5), some (3, true)⟩, ⟨none, .pick (.r 3) (.r 6) (.c (.bool false)), none⟩, ⟨some 3, .mov (.r 7), none⟩])
  .ret)),
  [.v 3]⟩
def ir_impl_increasing : IFun := ⟨[0, 2, 3, 7, 19],
  (.seq (.region false [] [⟨some 1, .mov (.c (.bool false)), none⟩])
  (.seq (.seq (.region false [] [⟨some 2, .mov (.c (.int .i64 1)), none⟩])
  (.block 0 (.loop [true, false, true, false, false] (.seq (.seq (.region false [] [⟨none, .mov (.v 2), none⟩, ⟨none, .mov (.v 0), none⟩, ⟨none, .len false (.r 1), none⟩, ⟨some 3, .bin false .lss (.r 0) (.r 2), none⟩])
  (.cond (.v 3) .skip (.exit 0)))
  (.seq (.block 1 (.seq (.region true [] [⟨none, .mov (.v 0), none⟩, ⟨none, .mov (.v 2), none⟩, ⟨none, .bin false .sub (.r 1) (.c (.int .i64 1)), none⟩, ⟨none, .iaddr 1 (.r 0) (.r 2), none⟩, ⟨none, .load false 1 (.r 3), none⟩, ⟨none, .mov (.v 0), none⟩, ⟨none, .mov (.v 2), none⟩, ⟨none, .iaddr 1 (.r 5) (.r 6), none⟩, ⟨none, .load false 1 (.r 7), none⟩, ⟨some 4, .bin false .geq (.r 4) (.r 8), none⟩])
  (.cond (.v 4) (.seq (.region false [] [⟨some 1, .mov (.c (.bool false)), none⟩])
  .ret) .skip)))
  (.region false [] [⟨none, .mov (.v 2), none⟩, ⟨none, .bin false .add (.r 0) (.c (.int .i64 1)), none⟩, ⟨some 2, .mov (.r 1), none⟩]))))))
  (.seq (.region false [] [⟨some 1, .mov (.c (.bool true)), none⟩])
  .ret))),
  [.v 1]⟩
def ir_impl_allWithin : IFun := ⟨[0, 1, 2, 6, 8, 9, 10, 11, 12, 19],
  (.seq (.region false [] [⟨some 3, .mov (.c (.bool false)), none⟩])
  (.seq (.seq (.region false [] [⟨some 5, .mov (.v 0), none⟩, ⟨some 6, .len false (.v 5), none⟩, ⟨some 7, .mov (.c (.int .i64 0)), none⟩])
  (.block 0 (.loop [false, true, true, false, false, true, true, true, false, false] (.seq (.region false [] [⟨some 8, .bin false .lss (.v 7) (.v 6), none⟩])
  (.seq (.cond (.v 8) .skip (.exit 0))
  (.seq (.block 1 (.seq (.region false [] [⟨none, .iaddr 1 (.v 5) (.v 7), none⟩, ⟨none, .load false 1 (.r 0), none⟩, ⟨some 4, .mov (.r 1), none⟩])
  (.seq (.region false [] [⟨none, .mov (.v 4), none⟩, ⟨none, .mov (.v 1), none⟩, ⟨none, .mov (.v 2), none⟩, ⟨none, .call false f_impl_within [(.r 0), (.r 1), (.r 2)], none⟩, ⟨some 9, .not (.r 3), none⟩])
  (.cond (.v 9) (.seq (.region false [] [⟨some 3, .mov (.c (.bool false)), none⟩])
  .ret) .skip))))
  (.region false [] [⟨none, .bin false .add (.v 7) (.c (.int .i64 1)), none⟩, ⟨some 7, .mov (.r 0), none⟩])))))))
  (.seq (.region false [] [⟨some 3, .mov (.c (.bool true)), none⟩])
  .ret))),
  [.v 3]⟩
def ir_impl_arePlaces : IFun := ⟨[0, 1, 2, 4],
  (.seq (.region false [] [⟨some 2, .box t_impl_Net 2 (.v 0), none⟩, ⟨some 3, .mov (.c (.bool false)), none⟩])
  (.seq (.region false [] [⟨none, .mov (.v 1), none⟩, ⟨none, .call false f_impl_increasing [(.r 0)], none⟩, ⟨none, .mov (.r 1), none⟩, ⟨none, .mov (.v 1), some (2, true)⟩, ⟨none, .faddr 0 (.v 2), some (2, true)⟩, ⟨none, .load false 1 (.r 4), some (2, true)⟩, ⟨none, .bin false .sub (.r 5) (.c (.int .i64 1)), some (2, true)⟩, ⟨none, .call false f_impl_allWithin [(.r 3), (.c (.int .i64 0)), (.r 6)], some (2, true)⟩, ⟨none, .pick (.r 2) (.r 7) (.c (.bool false)), none⟩, ⟨some 3, .mov (.r 8), none⟩])
  .ret)),
  [.v 3]⟩
def ir_impl_GoodNet_1 : IFun := ⟨[0, 1, 2, 3],
  (.seq (.region false [] [⟨some 2, .box t_impl_Trans 3 (.v 0), none⟩, ⟨some 3, .mov (.c (.bool false)), none⟩])
  (.seq (.region false [] [⟨none, .faddr 0 (.v 2), none⟩, ⟨none, .load false 1 (.r 0), none⟩, ⟨none, .len false (.r 1), none⟩, ⟨none, .bin false .eql (.r 2) (.c (.int .i64 0)), none⟩, ⟨none, .mov (.r 3), none⟩, ⟨none, .load true 2 (.v 1), some (4, false)⟩, ⟨none, .faddr 0 (.v 2), some (4, false)⟩, ⟨none, .load false 1 (.r 6), some (4, false)⟩, ⟨none, .call false f_impl_arePlaces [(.r 5), (.r 7)], some (4, false)⟩, ⟨none, .not (.r 8), some (4, false)⟩, ⟨none, .pick (.r 4) (.c (.bool true)) (.r 9), none⟩, ⟨none, .mov (.r 10), none⟩, ⟨none, .load true 2 (.v 1), some (11, false)⟩, ⟨none, .faddr 1 (.v 2), some (11, false)⟩, ⟨none, .load false 1 (.r 13), some (11, false)⟩, ⟨none, .call false f_impl_arePlaces [(.r 12), (.r 14)], some (11, false)⟩, ⟨none, .not (.r 15), some (11, false)⟩, ⟨none, .pick (.r 11) (.c (.bool true)) (.r 16), none⟩, ⟨none, .mov (.r 17), none⟩, ⟨none, .load true 2 (.v 1), some (18, false)⟩, ⟨none, .faddr 2 (.v 2), some (18, false)⟩, ⟨none, .load false 1 (.r 20), some (18, false)⟩, ⟨none, .call false f_impl_arePlaces [(.r 19), (.r 21)], some (18, false)⟩, ⟨none, .not (.r 22), some (18, false)⟩, ⟨none, .pick (.r 18) (.c (.bool true)) (.r 23), none⟩, ⟨some 3, .mov (.r 24), none⟩])
  .ret)),
  [.v 3]⟩
def ir_slices_IndexFunc_sl_impl_Trans_impl_Trans : IFun := ⟨[0, 1, 4, 5, 7, 8, 9, 16],
  (.seq (.region false [] [⟨some 2, .mov (.c (.int .i64 0)), none⟩])
  (.seq (.seq (.region false [] [⟨none, .mov (.v 0), none⟩, ⟨some 4, .len false (.r 0), none⟩, ⟨some 5, .mov (.c (.int .i64 0)), none⟩])
  (.block 0 (.loop [true, true, false, false, true, true, false, false] (.seq (.region false [] [⟨some 6, .bin false .lss (.v 5) (.v 4), none⟩])
  (.seq (.cond (.v 6) .skip (.exit 0))
  (.seq (.block 1 (.seq (.region false [] [⟨none, .mov (.v 5), none⟩, ⟨some 3, .mov (.r 0), none⟩])
  (.seq (.region false [] [⟨none, .mov (.v 1), none⟩, ⟨none, .mov (.v 0), none⟩, ⟨none, .mov (.v 3), none⟩, ⟨none, .iaddr 3 (.r 1) (.r 2), none⟩, ⟨none, .load true 3 (.r 3), none⟩, ⟨some 7, .callv false (.r 0) [(.r 4)], none⟩])
  (.cond (.v 7) (.seq (.region false [] [⟨none, .mov (.v 3), none⟩, ⟨some 2, .mov (.r 0), none⟩])
  .ret) .skip))))
  (.region false [] [⟨none, .bin false .add (.v 5) (.c (.int .i64 1)), none⟩, ⟨some 5, .mov (.r 0), none⟩])))))))
  (.seq (.region false [] [⟨some 2, .mov (.c (.int .i64 (-1))), none⟩])
  .ret))),
  [.v 2]⟩
def ir_slices_ContainsFunc_sl_impl_Trans_impl_Trans : IFun := ⟨[0, 1, 4],
  (.seq (.region false [] [⟨some 2, .mov (.c (.bool false)), none⟩])
  (.seq (.region false [] [⟨none, .mov (.v 0), none⟩, ⟨none, .mov (.v 1), none⟩, ⟨none, .call false f_slices_IndexFunc_sl_impl_Trans_impl_Trans [(.r 0), (.r 1)], none⟩, ⟨none, .bin false .geq (.r 2) (.c (.int .i64 0)), none⟩, ⟨some 2, .mov (.r 3), none⟩])
  .ret)),
  [.v 2]⟩
def ir_impl_GoodNet : IFun := ⟨[0, 1, 2],
  (.seq (.region false [] [⟨some 1, .box t_impl_Net 2 (.v 0), none⟩, ⟨some 2, .mov (.c (.bool false)), none⟩])
  (.seq (.region false [] [⟨none, .faddr 0 (.v 1), none⟩, ⟨none, .load false 1 (.r 0), none⟩, ⟨none, .call false f_impl_within [(.r 1), (.c (.int .i64 1)), (.c (.int .i64 16))], none⟩, ⟨none, .mov (.r 2), none⟩, ⟨none, .faddr 1 (.v 1), some (3, true)⟩, ⟨none, .load false 1 (.r 4), some (3, true)⟩, ⟨none, .len false (.r 5), some (3, true)⟩, ⟨none, .bin false .leq (.r 6) (.c (.int .i64 24)), some (3, true)⟩, ⟨none, .pick (.r 3) (.r 7) (.c (.bool false)), none⟩, ⟨none, .mov (.r 8), none⟩, ⟨none, .faddr 1 (.v 1), some (9, true)⟩, ⟨none, .load false 1 (.r 10), some (9, true)⟩, ⟨none, .mkfn f_impl_GoodNet_1 [(.v 1)], some (9, true)⟩, ⟨none, .call false f_slices_ContainsFunc_sl_impl_Trans_impl_Trans [(.r 11), (.r 12)], some (9, true)⟩, ⟨none, .not (.r 13), some (9, true)⟩, ⟨none, .pick (.r 9) (.r 14) (.c (.bool false)), none⟩, ⟨some 2, .mov (.r 15), none⟩])
  .ret)),
  [.v 2]⟩
def ir_slices_Index_sl_int_int : IFun := ⟨[0, 1, 4, 5, 7, 8, 9, 16],
  (.seq (.region false [] [⟨some 2, .mov (.c (.int .i64 0)), none⟩])
  (.seq (.seq (.region false [] [⟨none, .mov (.v 0), none⟩, ⟨some 4, .len false (.r 0), none⟩, ⟨some 5, .mov (.c (.int .i64 0)), none⟩])
  (.block 0 (.loop [true, true, false, false, true, true, false, false] (.seq (.region false [] [⟨some 6, .bin false .lss (.v 5) (.v 4), none⟩])
  (.seq (.cond (.v 6) .skip (.exit 0))
  (.seq (.block 1 (.seq (.region false [] [⟨none, .mov (.v 5), none⟩, ⟨some 3, .mov (.r 0), none⟩])
  (.seq (.region false [] [⟨none, .mov (.v 1), none⟩, ⟨none, .mov (.v 0), none⟩, ⟨none, .mov (.v 3), none⟩, ⟨none, .iaddr 1 (.r 1) (.r 2), none⟩, ⟨none, .load false 1 (.r 3), none⟩, ⟨some 7, .bin false .eql (.r 0) (.r 4), none⟩])
  (.cond (.v 7) (.seq (.region false [] [⟨none, .mov (.v 3), none⟩, ⟨some 2, .mov (.r 0), none⟩])
  .ret) .skip))))
  (.region false [] [⟨none, .bin false .add (.v 5) (.c (.int .i64 1)), none⟩, ⟨some 5, .mov (.r 0), none⟩])))))))
  (.seq (.region false [] [⟨some 2, .mov (.c (.int .i64 (-1))), none⟩])
  .ret))),
  [.v 2]⟩
def ir_slices_Contains_sl_int_int : IFun := ⟨[0, 1, 4],
  (.seq (.region false [] [⟨some 2, .mov (.c (.bool false)), none⟩])
  (.seq (.region false [] [⟨none, .mov (.v 0), none⟩, ⟨none, .mov (.v 1), none⟩, ⟨none, .call false f_slices_Index_sl_int_int [(.r 0), (.r 1)], none⟩, ⟨none, .bin false .geq (.r 2) (.c (.int .i64 0)), none⟩, ⟨some 2, .mov (.r 3), none⟩])
  .ret)),
  [.v 2]⟩
def ir_impl_reachedFrom_1 : IFun := ⟨[0, 1, 3],
  (.seq (.region false [] [⟨some 2, .mov (.c (.bool false)), none⟩])
  (.seq (.region false [] [⟨none, .load false 1 (.v 1), none⟩, ⟨none, .mov (.v 0), none⟩, ⟨none, .iaddr 1 (.r 0) (.r 1), none⟩, ⟨none, .load false 1 (.r 2), none⟩, ⟨some 2, .mov (.r 3), none⟩])
  .ret)),
  [.v 2]⟩
def ir_slices_IndexFunc_sl_int_int : IFun := ⟨[0, 1, 4, 5, 7, 8, 9, 16],
  (.seq (.region false [] [⟨some 2, .mov (.c (.int .i64 0)), none⟩])
  (.seq (.seq (.region false [] [⟨none, .mov (.v 0), none⟩, ⟨some 4, .len false (.r 0), none⟩, ⟨some 5, .mov (.c (.int .i64 0)), none⟩])
  (.block 0 (.loop [true, true, false, false, true, true, false, false] (.seq (.region false [] [⟨some 6, .bin false .lss (.v 5) (.v 4), none⟩])
  (.seq (.cond (.v 6) .skip (.exit 0))
  (.seq (.block 1 (.seq (.region false [] [⟨none, .mov (.v 5), none⟩, ⟨some 3, .mov (.r 0), none⟩])
  (.seq (.region false [] [⟨none, .mov (.v 1), none⟩, ⟨none, .mov (.v 0), none⟩, ⟨none, .mov (.v 3), none⟩, ⟨none, .iaddr 1 (.r 1) (.r 2), none⟩, ⟨none, .load false 1 (.r 3), none⟩, ⟨some 7, .callv false (.r 0) [(.r 4)], none⟩])
  (.cond (.v 7) (.seq (.region false [] [⟨none, .mov (.v 3), none⟩, ⟨some 2, .mov (.r 0), none⟩])
  .ret) .skip))))
  (.region false [] [⟨none, .bin false .add (.v 5) (.c (.int .i64 1)), none⟩, ⟨some 5, .mov (.r 0), none⟩])))))))
  (.seq (.region false [] [⟨some 2, .mov (.c (.int .i64 (-1))), none⟩])
  .ret))),
  [.v 2]⟩
def ir_slices_ContainsFunc_sl_int_int : IFun := ⟨[0, 1, 4],
  (.seq (.region false [] [⟨some 2, .mov (.c (.bool false)), none⟩])
  (.seq (.region false [] [⟨none, .mov (.v 0), none⟩, ⟨none, .mov (.v 1), none⟩, ⟨none, .call false f_slices_IndexFunc_sl_int_int [(.r 0), (.r 1)], none⟩, ⟨none, .bin false .geq (.r 2) (.c (.int .i64 0)), none⟩, ⟨some 2, .mov (.r 3), none⟩])
  .ret)),
  [.v 2]⟩
def ir_impl_reachedFrom : IFun := ⟨[0, 1, 2, 3, 6, 7, 8, 9, 10, 11, 12, 13, 14, 16, 27, 29, 30, 31, 32, 40, 52, 56, 57, 58, 59],
  (.seq (.region false [] [⟨some 3, .box t_impl_Net 2 (.v 0), none⟩, ⟨some 4, .nilrow t_bool true 1, none⟩, ⟨some 5, .nilrow t_bool true 1, none⟩])
  (.seq (.region true [(8, 4)] [⟨none, .faddr 0 (.v 3), none⟩, ⟨none, .load false 1 (.r 0), none⟩, ⟨none, .mk t_bool true 1 (.bool false) (.r 1), none⟩, ⟨none, .faddr 1 (.v 3), none⟩, ⟨none, .load false 1 (.r 3), none⟩, ⟨none, .len false (.r 4), none⟩, ⟨none, .mk t_bool true 1 (.bool false) (.r 5), none⟩, ⟨some 6, .alloc t_sl_bool [(.nil true 1)], none⟩, ⟨none, .store 1 (.v 6) (.r 2), none⟩, ⟨some 7, .mov (.r 6), none⟩])
  (.seq (.region false [] [⟨none, .load false 1 (.v 6), none⟩, ⟨none, .mov (.v 1), none⟩, ⟨none, .iaddr 1 (.r 0) (.r 1), none⟩, ⟨none, .store 1 (.r 2) (.c (.bool true)), none⟩])
  (.seq (.seq (.region false [] [⟨some 8, .mov (.c (.bool true)), none⟩])
  (.block 0 (.loop [false, false, true, true, false, false, true, true, true, false, false, false, false, false, false, false, false, false, false, false, false, false, false, false, false] (.seq (.seq (.region false [] [⟨some 14, .mov (.v 8), none⟩])
  (.cond (.v 14) .skip (.exit 0)))
  (.block 1 (.seq (.region false [] [⟨some 8, .mov (.c (.bool false)), none⟩])
  (.seq (.region false [] [⟨none, .faddr 1 (.v 3), none⟩, ⟨some 15, .load false 1 (.r 0), none⟩, ⟨some 16, .len false (.v 15), none⟩, ⟨some 17, .mov (.c (.int .i64 0)), none⟩])
  (.block 2 (.loop [false, false, true, true, false, false, true, true, true, false, false, false, false, false, false, true, true, true, false, false, false, false, false, false, false] (.seq (.region false [] [⟨some 18, .bin false .lss (.v 17) (.v 16), none⟩])
  (.seq (.cond (.v 18) .skip (.exit 2))
  (.seq (.block 3 (.seq (.region false [] [⟨none, .mov (.v 17), none⟩, ⟨none, .iaddr 3 (.v 15) (.v 17), none⟩, ⟨none, .load true 3 (.r 1), none⟩, ⟨some 10, .alloc t_impl_Trans [(.nil true 1), (.nil true 1), (.nil true 1)], none⟩, ⟨some 9, .mov (.r 0), none⟩, ⟨none, .store 3 (.v 10) (.r 2), none⟩])
  (.seq (.region true [] [⟨none, .faddr 0 (.v 10), none⟩, ⟨none, .load false 1 (.r 0), none⟩, ⟨none, .faddr 1 (.v 10), none⟩, ⟨none, .load false 1 (.r 2), none⟩, ⟨some 11, .mov (.r 1), none⟩, ⟨some 12, .mov (.r 3), none⟩])
  (.seq (.seq (.region false [] [⟨some 19, .mov (.v 2), none⟩])
  (.cond (.v 19) (.region false [] [⟨none, .mov (.v 12), none⟩, ⟨none, .mov (.v 11), none⟩, ⟨some 11, .mov (.r 0), none⟩, ⟨some 12, .mov (.r 1), none⟩]) .skip))
  (.seq (.seq (.region false [] [⟨none, .mov (.v 7), none⟩, ⟨none, .mov (.v 9), none⟩, ⟨none, .iaddr 1 (.r 0) (.r 1), none⟩, ⟨none, .load false 1 (.r 2), none⟩, ⟨none, .mov (.r 3), none⟩, ⟨none, .mov (.v 11), some (4, false)⟩, ⟨none, .mkfn f_impl_reachedFrom_1 [(.v 6)], some (4, false)⟩, ⟨none, .call false f_slices_ContainsFunc_sl_int_int [(.r 5), (.r 6)], some (4, false)⟩, ⟨none, .not (.r 7), some (4, false)⟩, ⟨some 20, .pick (.r 4) (.c (.bool true)) (.r 8), none⟩])
  (.cond (.v 20) (.exit 3) .skip))
  (.seq (.region false [] [⟨none, .mov (.v 7), none⟩, ⟨none, .mov (.v 9), none⟩, ⟨none, .iaddr 1 (.r 0) (.r 1), none⟩, ⟨none, .store 1 (.r 2) (.c (.bool true)), none⟩, ⟨some 8, .mov (.c (.bool true)), none⟩])
  (.seq (.region false [] [⟨some 21, .mov (.v 12), none⟩, ⟨some 22, .len false (.v 21), none⟩, ⟨some 23, .mov (.c (.int .i64 0)), none⟩])
  (.block 4 (.loop [false, false, true, true, false, false, true, true, true, false, false, false, false, false, false, true, true, true, false, false, false, true, true, true, false] (.seq (.region false [] [⟨some 24, .bin false .lss (.v 23) (.v 22), none⟩])
  (.seq (.cond (.v 24) .skip (.exit 4))
  (.seq (.block 5 (.seq (.region false [] [⟨none, .iaddr 1 (.v 21) (.v 23), none⟩, ⟨none, .load false 1 (.r 0), none⟩, ⟨some 13, .mov (.r 1), none⟩])
  (.region false [] [⟨none, .load false 1 (.v 6), none⟩, ⟨none, .mov (.v 13), none⟩, ⟨none, .iaddr 1 (.r 0) (.r 1), none⟩, ⟨none, .store 1 (.r 2) (.c (.bool true)), none⟩])))
  (.region false [] [⟨none, .bin false .add (.v 23) (.c (.int .i64 1)), none⟩, ⟨some 23, .mov (.r 0), none⟩])))))))))))))
  (.region false [] [⟨none, .bin false .add (.v 17) (.c (.int .i64 1)), none⟩, ⟨some 17, .mov (.r 0), none⟩])))))))))))))
  (.seq (.region false [] [⟨none, .load false 1 (.v 6), none⟩, ⟨none, .mov (.v 7), none⟩, ⟨some 4, .mov (.r 0), none⟩, ⟨some 5, .mov (.r 1), none⟩])
  .ret))))),
  [.v 4, .v 5]⟩
def ir_impl_bothOf : IFun := ⟨[0, 1, 4, 5, 6, 7, 8, 9, 10, 11, 21],
  (.seq (.region false [] [⟨some 2, .nilrow t_int true 1, none⟩])
  (.seq (.region false [] [⟨some 3, .nilrow t_int true 1, none⟩])
  (.seq (.seq (.region false [] [⟨some 6, .mov (.v 0), none⟩, ⟨some 7, .len false (.v 6), none⟩, ⟨some 8, .mov (.c (.int .i64 0)), none⟩])
  (.block 0 (.loop [false, true, false, true, false, false, true, true, true, false, false] (.seq (.region false [] [⟨some 9, .bin false .lss (.v 8) (.v 7), none⟩])
  (.seq (.cond (.v 9) .skip (.exit 0))
  (.seq (.block 1 (.seq (.region false [] [⟨none, .mov (.v 8), none⟩, ⟨none, .iaddr 1 (.v 6) (.v 8), none⟩, ⟨none, .load false 1 (.r 1), none⟩, ⟨some 4, .mov (.r 0), none⟩, ⟨some 5, .mov (.r 2), none⟩])
  (.seq (.region false [] [⟨none, .mov (.v 5), none⟩, ⟨none, .mov (.r 0), none⟩, ⟨none, .mov (.v 1), some (1, true)⟩, ⟨none, .mov (.v 4), some (1, true)⟩, ⟨none, .iaddr 1 (.r 2) (.r 3), some (1, true)⟩, ⟨none, .load false 1 (.r 4), some (1, true)⟩, ⟨some 10, .pick (.r 1) (.r 5) (.c (.bool false)), none⟩])
  (.cond (.v 10) (.region false [] [⟨none, .mov (.v 3), none⟩, ⟨none, .mov (.v 4), none⟩, ⟨none, .bslice false t_int true 1 [(.r 1)], none⟩, ⟨none, .append t_int true 1 (.r 0) (.r 2), none⟩, ⟨some 3, .mov (.r 3), none⟩]) .skip))))
  (.region false [] [⟨none, .bin false .add (.v 8) (.c (.int .i64 1)), none⟩, ⟨some 8, .mov (.r 0), none⟩])))))))
  (.seq (.region false [] [⟨none, .mov (.v 3), none⟩, ⟨some 2, .mov (.r 0), none⟩])
  .ret)))),
  [.v 2]⟩
def ir_impl_onWay : IFun := ⟨[0, 1, 2, 3, 6, 7, 8, 9, 10, 11],
  (.seq (.region false [] [⟨some 3, .box t_impl_Net 2 (.v 0), none⟩, ⟨some 4, .nilrow t_int true 1, none⟩, ⟨some 5, .nilrow t_int true 1, none⟩])
  (.seq (.region false [] [⟨none, .load true 2 (.v 3), none⟩, ⟨none, .mov (.v 1), none⟩, ⟨none, .call false f_impl_reachedFrom [(.r 0), (.r 1), (.c (.bool false))], none⟩, ⟨none, .mov (.r 2), none⟩, ⟨none, .extract (.r 3) 0, none⟩, ⟨none, .extract (.r 3) 1, none⟩, ⟨some 6, .mov (.r 4), none⟩, ⟨some 7, .mov (.r 5), none⟩])
  (.seq (.region false [] [⟨none, .load true 2 (.v 3), none⟩, ⟨none, .mov (.v 2), none⟩, ⟨none, .call false f_impl_reachedFrom [(.r 0), (.r 1), (.c (.bool true))], none⟩, ⟨none, .mov (.r 2), none⟩, ⟨none, .extract (.r 3) 0, none⟩, ⟨none, .extract (.r 3) 1, none⟩, ⟨some 8, .mov (.r 4), none⟩, ⟨some 9, .mov (.r 5), none⟩])
  (.seq (.region false [] [⟨none, .mov (.v 6), none⟩, ⟨none, .mov (.v 8), none⟩, ⟨none, .call false f_impl_bothOf [(.r 0), (.r 1)], none⟩, ⟨none, .mov (.v 7), none⟩, ⟨none, .mov (.v 9), none⟩, ⟨none, .call false f_impl_bothOf [(.r 3), (.r 4)], none⟩, ⟨some 4, .mov (.r 2), none⟩, ⟨some 5, .mov (.r 5), none⟩])
  .ret)))),
  [.v 4, .v 5]⟩
def ir_impl_GoodFlow : IFun := ⟨[0, 1, 2, 3, 5, 6, 7, 37, 39, 40, 41, 42, 70],
  (.seq (.region false [] [⟨some 1, .box t_impl_Flow 4 (.v 0), none⟩, ⟨some 2, .mov (.c (.bool false)), none⟩])
  (.seq (.region false [] [⟨none, .faddr 0 (.v 1), none⟩, ⟨none, .load true 2 (.r 0), none⟩, ⟨some 3, .alloc t_impl_Net [(.int .i64 0), (.nil false 3)], none⟩, ⟨none, .store 2 (.v 3) (.r 1), none⟩])
  (.seq (.seq (.region false [] [⟨none, .load true 2 (.v 3), none⟩, ⟨none, .call false f_impl_GoodNet [(.r 0)], none⟩, ⟨none, .not (.r 1), none⟩, ⟨none, .mov (.r 2), none⟩, ⟨none, .faddr 2 (.v 1), some (3, false)⟩, ⟨none, .load false 1 (.r 4), some (3, false)⟩, ⟨none, .faddr 0 (.v 3), some (3, false)⟩, ⟨none, .load false 1 (.r 6), some (3, false)⟩, ⟨none, .bin false .sub (.r 7) (.c (.int .i64 1)), some (3, false)⟩, ⟨none, .call false f_impl_within [(.r 5), (.c (.int .i64 0)), (.r 8)], some (3, false)⟩, ⟨none, .not (.r 9), some (3, false)⟩, ⟨none, .pick (.r 3) (.c (.bool true)) (.r 10), none⟩, ⟨none, .mov (.r 11), none⟩, ⟨none, .faddr 3 (.v 1), some (12, false)⟩, ⟨none, .load false 1 (.r 13), some (12, false)⟩, ⟨none, .faddr 0 (.v 3), some (12, false)⟩, ⟨none, .load false 1 (.r 15), some (12, false)⟩, ⟨none, .bin false .sub (.r 16) (.c (.int .i64 1)), some (12, false)⟩, ⟨none, .call false f_impl_within [(.r 14), (.c (.int .i64 0)), (.r 17)], some (12, false)⟩, ⟨none, .not (.r 18), some (12, false)⟩, ⟨none, .pick (.r 12) (.c (.bool true)) (.r 19), none⟩, ⟨none, .mov (.r 20), none⟩, ⟨none, .faddr 2 (.v 1), some (21, false)⟩, ⟨none, .load false 1 (.r 22), some (21, false)⟩, ⟨none, .faddr 3 (.v 1), some (21, false)⟩, ⟨none, .load false 1 (.r 24), some (21, false)⟩, ⟨none, .bin false .eql (.r 23) (.r 25), some (21, false)⟩, ⟨some 7, .pick (.r 21) (.c (.bool true)) (.r 26), none⟩])
  (.cond (.v 7) (.seq (.region false [] [⟨some 2, .mov (.c (.bool false)), none⟩])
  .ret) .skip))
  (.seq (.seq (.region false [] [⟨none, .faddr 1 (.v 3), none⟩, ⟨some 8, .load false 1 (.r 0), none⟩, ⟨some 9, .len false (.v 8), none⟩, ⟨some 10, .mov (.c (.int .i64 0)), none⟩])
  (.block 0 (.loop [false, true, false, true, false, false, false, false, true, true, true, false, false] (.seq (.region false [] [⟨some 11, .bin false .lss (.v 10) (.v 9), none⟩])
  (.seq (.cond (.v 11) .skip (.exit 0))
  (.seq (.block 1 (.seq (.region false [] [⟨none, .iaddr 3 (.v 8) (.v 10), none⟩, ⟨none, .load true 3 (.r 0), none⟩, ⟨some 4, .alloc t_impl_Trans [(.nil true 1), (.nil true 1), (.nil true 1)], none⟩, ⟨none, .store 3 (.v 4) (.r 1), none⟩])
  (.seq (.region false [] [⟨none, .faddr 1 (.v 4), none⟩, ⟨none, .load false 1 (.r 0), none⟩, ⟨none, .faddr 2 (.v 1), none⟩, ⟨none, .load false 1 (.r 2), none⟩, ⟨none, .call false f_slices_Contains_sl_int_int [(.r 1), (.r 3)], none⟩, ⟨none, .mov (.r 4), none⟩, ⟨none, .faddr 0 (.v 4), some (5, false)⟩, ⟨none, .load false 1 (.r 6), some (5, false)⟩, ⟨none, .faddr 3 (.v 1), some (5, false)⟩, ⟨none, .load false 1 (.r 8), some (5, false)⟩, ⟨none, .call false f_slices_Contains_sl_int_int [(.r 7), (.r 9)], some (5, false)⟩, ⟨none, .pick (.r 5) (.c (.bool true)) (.r 10), none⟩, ⟨none, .mov (.r 11), none⟩, ⟨none, .faddr 2 (.v 4), some (12, false)⟩, ⟨none, .load false 1 (.r 13), some (12, false)⟩, ⟨none, .faddr 2 (.v 1), some (12, false)⟩, ⟨none, .load false 1 (.r 15), some (12, false)⟩, ⟨none, .call false f_slices_Contains_sl_int_int [(.r 14), (.r 16)], some (12, false)⟩, ⟨none, .pick (.r 12) (.c (.bool true)) (.r 17), none⟩, ⟨none, .mov (.r 18), none⟩, ⟨none, .faddr 2 (.v 4), some (19, false)⟩, ⟨none, .load false 1 (.r 20), some (19, false)⟩, ⟨none, .faddr 3 (.v 1), some (19, false)⟩, ⟨none, .load false 1 (.r 22), some (19, false)⟩, ⟨none, .call false f_slices_Contains_sl_int_int [(.r 21), (.r 23)], some (19, false)⟩, ⟨some 12, .pick (.r 19) (.c (.bool true)) (.r 24), none⟩])
  (.cond (.v 12) (.seq (.region false [] [⟨some 2, .mov (.c (.bool false)), none⟩])
  .ret) .skip))))
  (.region false [] [⟨none, .bin false .add (.v 10) (.c (.int .i64 1)), none⟩, ⟨some 10, .mov (.r 0), none⟩])))))))
  (.seq (.region false [] [⟨none, .load true 2 (.v 3), none⟩, ⟨none, .faddr 2 (.v 1), none⟩, ⟨none, .load false 1 (.r 1), none⟩, ⟨none, .faddr 3 (.v 1), none⟩, ⟨none, .load false 1 (.r 3), none⟩, ⟨none, .call false f_impl_onWay [(.r 0), (.r 2), (.r 4)], none⟩, ⟨none, .mov (.r 5), none⟩, ⟨none, .extract (.r 6) 0, none⟩, ⟨none, .extract (.r 6) 1, none⟩, ⟨some 5, .mov (.r 7), none⟩, ⟨some 6, .mov (.r 8), none⟩])
  (.seq (.region false [] [⟨none, .mov (.v 5), none⟩, ⟨none, .len false (.r 0), none⟩, ⟨none, .faddr 0 (.v 3), none⟩, ⟨none, .load false 1 (.r 2), none⟩, ⟨none, .bin false .eql (.r 1) (.r 3), none⟩, ⟨none, .mov (.r 4), none⟩, ⟨none, .mov (.v 6), some (5, true)⟩, ⟨none, .len false (.r 6), some (5, true)⟩, ⟨none, .faddr 1 (.v 3), some (5, true)⟩, ⟨none, .load false 1 (.r 8), some (5, true)⟩, ⟨none, .len false (.r 9), some (5, true)⟩, ⟨none, .bin false .eql (.r 7) (.r 10), some (5, true)⟩, ⟨none, .pick (.r 5) (.r 11) (.c (.bool false)), none⟩, ⟨some 2, .mov (.r 12), none⟩])
  .ret)))))),
  [.v 2]⟩
def ir_impl_hasResets_1 : IFun := ⟨[0, 1, 2],
  (.seq (.region false [] [⟨some 1, .box t_impl_Trans 3 (.v 0), none⟩, ⟨some 2, .mov (.c (.bool false)), none⟩])
  (.seq (.region false [] [⟨none, .faddr 2 (.v 1), none⟩, ⟨none, .load false 1 (.r 0), none⟩, ⟨none, .len false (.r 1), none⟩, ⟨none, .bin false .gtr (.r 2) (.c (.int .i64 0)), none⟩, ⟨some 2, .mov (.r 3), none⟩])
  .ret)),
  [.v 2]⟩
def ir_impl_hasResets : IFun := ⟨[0, 1, 2],
  (.seq (.region false [] [⟨some 1, .box t_impl_Net 2 (.v 0), none⟩, ⟨some 2, .mov (.c (.bool false)), none⟩])
  (.seq (.region false [] [⟨none, .faddr 1 (.v 1), none⟩, ⟨none, .load false 1 (.r 0), none⟩, ⟨none, .call false f_slices_ContainsFunc_sl_impl_Trans_impl_Trans [(.r 1), (.c (.clo f_impl_hasResets_1 []))], none⟩, ⟨some 2, .mov (.r 2), none⟩])
  .ret)),
  [.v 2]⟩
def ir_impl_isReducible : IFun := ⟨[0, 1, 2],
  (.seq (.region false [] [⟨some 1, .box t_impl_Flow 4 (.v 0), none⟩, ⟨some 2, .mov (.c (.bool false)), none⟩])
  (.seq (.region false [] [⟨none, .load true 4 (.v 1), none⟩, ⟨none, .call false f_impl_GoodFlow [(.r 0)], none⟩, ⟨none, .mov (.r 1), none⟩, ⟨none, .faddr 0 (.v 1), some (2, true)⟩, ⟨none, .load true 2 (.r 3), some (2, true)⟩, ⟨none, .call false f_impl_hasResets [(.r 4)], some (2, true)⟩, ⟨none, .not (.r 5), some (2, true)⟩, ⟨none, .pick (.r 2) (.r 6) (.c (.bool false)), none⟩, ⟨some 2, .mov (.r 7), none⟩])
  .ret)),
  [.v 2]⟩
def ir_impl_fusePlaces_1 : IFun := ⟨[0, 1, 2, 3, 4],
  (.seq (.region false [] [⟨some 3, .box t_impl_Trans 3 (.v 0), none⟩, ⟨some 4, .mov (.c (.bool false)), none⟩])
  (.seq (.region false [] [⟨none, .faddr 1 (.v 3), none⟩, ⟨none, .load false 1 (.r 0), none⟩, ⟨none, .load false 1 (.v 1), none⟩, ⟨none, .call false f_slices_Contains_sl_int_int [(.r 1), (.r 2)], none⟩, ⟨none, .mov (.r 3), none⟩, ⟨none, .faddr 1 (.v 3), some (4, true)⟩, ⟨none, .load false 1 (.r 5), some (4, true)⟩, ⟨none, .load false 1 (.v 2), some (4, true)⟩, ⟨none, .call false f_slices_Contains_sl_int_int [(.r 6), (.r 7)], some (4, true)⟩, ⟨none, .pick (.r 4) (.r 8) (.c (.bool false)), none⟩, ⟨some 4, .mov (.r 9), none⟩])
  .ret)),
  [.v 4]⟩
def ir_impl_withTrans : IFun := ⟨[0, 1, 2, 3, 6, 7, 8, 9, 11, 12, 13, 14, 34],
  (.seq (.region false [] [⟨some 3, .box t_impl_Net 2 (.v 0), none⟩, ⟨some 4, .nilrow t_int true 1, none⟩])
  (.seq (.region false [] [⟨some 5, .nilrow t_int true 1, none⟩])
  (.seq (.seq (.region false [] [⟨none, .faddr 1 (.v 3), none⟩, ⟨some 8, .load false 1 (.r 0), none⟩, ⟨some 9, .len false (.v 8), none⟩, ⟨some 10, .mov (.c (.int .i64 0)), none⟩])
  (.block 0 (.loop [false, true, true, false, false, true, false, false, true, true, true, false, false] (.seq (.region false [] [⟨some 11, .bin false .lss (.v 10) (.v 9), none⟩])
  (.seq (.cond (.v 11) .skip (.exit 0))
  (.seq (.block 1 (.seq (.region false [] [⟨none, .mov (.v 10), none⟩, ⟨none, .iaddr 3 (.v 8) (.v 10), none⟩, ⟨none, .load true 3 (.r 1), none⟩, ⟨some 7, .alloc t_impl_Trans [(.nil true 1), (.nil true 1), (.nil true 1)], none⟩, ⟨some 6, .mov (.r 0), none⟩, ⟨none, .store 3 (.v 7) (.r 2), none⟩])
  (.seq (.region false [] [⟨none, .mov (.v 2), none⟩, ⟨none, .not (.r 0), none⟩, ⟨none, .mov (.r 1), none⟩, ⟨none, .faddr 0 (.v 7), some (2, true)⟩, ⟨none, .load false 1 (.r 3), some (2, true)⟩, ⟨none, .mov (.v 1), some (2, true)⟩, ⟨none, .call false f_slices_Contains_sl_int_int [(.r 4), (.r 5)], some (2, true)⟩, ⟨none, .pick (.r 2) (.r 6) (.c (.bool false)), none⟩, ⟨none, .mov (.r 7), none⟩, ⟨none, .mov (.v 2), some (8, false)⟩, ⟨none, .mov (.r 9), some (8, false)⟩, ⟨none, .faddr 1 (.v 7), some (10, true)⟩, ⟨none, .load false 1 (.r 11), some (10, true)⟩, ⟨none, .mov (.v 1), some (10, true)⟩, ⟨none, .call false f_slices_Contains_sl_int_int [(.r 12), (.r 13)], some (10, true)⟩, ⟨none, .pick (.r 10) (.r 14) (.c (.bool false)), some (8, false)⟩, ⟨some 12, .pick (.r 8) (.c (.bool true)) (.r 15), none⟩])
  (.cond (.v 12) (.region false [] [⟨none, .mov (.v 5), none⟩, ⟨none, .mov (.v 6), none⟩, ⟨none, .bslice false t_int true 1 [(.r 1)], none⟩, ⟨none, .append t_int true 1 (.r 0) (.r 2), none⟩, ⟨some 5, .mov (.r 3), none⟩]) .skip))))
  (.region false [] [⟨none, .bin false .add (.v 10) (.c (.int .i64 1)), none⟩, ⟨some 10, .mov (.r 0), none⟩])))))))
  (.seq (.region false [] [⟨none, .mov (.v 5), none⟩, ⟨some 4, .mov (.r 0), none⟩])
  .ret)))),
  [.v 4]⟩
def ir_impl_cloneNet : IFun := ⟨[0, 1, 2, 3, 5, 10, 11, 12, 13],
  (.seq (.region false [] [⟨some 1, .box t_impl_Net 2 (.v 0), none⟩, ⟨some 2, .alloc t_impl_Net [(.int .i64 0), (.nil false 3)], none⟩])
  (.seq (.region false [] [⟨none, .faddr 0 (.v 1), none⟩, ⟨none, .load false 1 (.r 0), none⟩, ⟨none, .build [(.int .i64 0), (.nil false 3)] [(0, 1, (.r 1))], none⟩, ⟨some 3, .alloc t_impl_Net [(.int .i64 0), (.nil false 3)], none⟩, ⟨none, .store 2 (.v 3) (.r 2), none⟩])
  (.seq (.seq (.region false [] [⟨none, .faddr 1 (.v 1), none⟩, ⟨some 5, .load false 1 (.r 0), none⟩, ⟨some 6, .len false (.v 5), none⟩, ⟨some 7, .mov (.c (.int .i64 0)), none⟩])
  (.block 0 (.loop [false, false, true, true, false, true, true, true, false] (.seq (.region false [] [⟨some 8, .bin false .lss (.v 7) (.v 6), none⟩])
  (.seq (.cond (.v 8) .skip (.exit 0))
  (.seq (.block 1 (.seq (.region false [] [⟨none, .iaddr 3 (.v 5) (.v 7), none⟩, ⟨none, .load true 3 (.r 0), none⟩, ⟨some 4, .alloc t_impl_Trans [(.nil true 1), (.nil true 1), (.nil true 1)], none⟩, ⟨none, .store 3 (.v 4) (.r 1), none⟩])
  (.region true [(8, 1), (8, 5), (8, 7), (9, 1), (9, 7), (10, 1), (12, 1)] [⟨none, .faddr 1 (.v 3), none⟩, ⟨none, .load false 1 (.r 0), none⟩, ⟨none, .faddr 0 (.v 4), none⟩, ⟨none, .load false 1 (.r 2), none⟩, ⟨none, .faddr 1 (.v 4), none⟩, ⟨none, .load false 1 (.r 4), none⟩, ⟨none, .faddr 2 (.v 4), none⟩, ⟨none, .load false 1 (.r 6), none⟩, ⟨none, .call false f_slices_Clone_sl_int_int [(.r 3)], none⟩, ⟨none, .call false f_slices_Clone_sl_int_int [(.r 5)], none⟩, ⟨none, .call false f_slices_Clone_sl_int_int [(.r 7)], none⟩, ⟨none, .build [(.nil true 1), (.nil true 1), (.nil true 1)] [(0, 1, (.r 8)), (1, 1, (.r 9)), (2, 1, (.r 10))], none⟩, ⟨none, .bslice false t_impl_Trans false 3 [(.r 11)], none⟩, ⟨none, .append t_impl_Trans false 3 (.r 1) (.r 12), none⟩, ⟨none, .faddr 1 (.v 3), none⟩, ⟨none, .store 1 (.r 14) (.r 13), none⟩])))
  (.region false [] [⟨none, .bin false .add (.v 7) (.c (.int .i64 1)), none⟩, ⟨some 7, .mov (.r 0), none⟩])))))))
  (.seq (.region false [] [⟨none, .load true 2 (.v 3), none⟩, ⟨none, .store 2 (.v 2) (.r 0), none⟩])
  .ret)))),
  [.cell true 2 2]⟩
def ir_slices_Delete_sl_impl_Trans_impl_Trans : IFun := ⟨[0, 1, 2, 6, 7, 16],
  (.seq (.region false [] [⟨some 3, .nilrow t_impl_Trans false 3, none⟩])
  (.seq (.region false [] [⟨none, .mov (.v 0), none⟩, ⟨none, .mov (.v 1), none⟩, ⟨none, .mov (.v 2), none⟩, ⟨none, .mov (.v 0), none⟩, ⟨none, .len false (.r 3), none⟩, ⟨none, .chk3 (.r 0) (.r 1) (.r 2) (.r 4), none⟩])
  (.seq (.seq (.region false [] [⟨none, .mov (.v 1), none⟩, ⟨none, .mov (.v 2), none⟩, ⟨some 5, .bin false .eql (.r 0) (.r 1), none⟩])
  (.cond (.v 5) (.seq (.region false [] [⟨none, .mov (.v 0), none⟩, ⟨some 3, .mov (.r 0), none⟩])
  .ret) .skip))
  (.seq (.region false [] [⟨none, .mov (.v 0), none⟩, ⟨none, .len false (.r 0), none⟩, ⟨some 4, .mov (.r 1), none⟩])
  (.seq (.region true [] [⟨none, .mov (.v 0), none⟩, ⟨none, .mov (.v 1), none⟩, ⟨none, .slice 3 (.r 0) none (some (.r 1)), none⟩, ⟨none, .mov (.v 0), none⟩, ⟨none, .mov (.v 2), none⟩, ⟨none, .slice 3 (.r 3) (some (.r 4)) none, none⟩, ⟨none, .append t_impl_Trans false 3 (.r 2) (.r 5), none⟩, ⟨some 0, .mov (.r 6), none⟩])
  (.seq (.region false [] [⟨none, .mov (.v 0), none⟩, ⟨none, .mov (.v 0), none⟩, ⟨none, .len false (.r 1), none⟩, ⟨none, .mov (.v 4), none⟩, ⟨none, .slice 3 (.r 0) (some (.r 2)) (some (.r 3)), none⟩, ⟨none, .clr (.agg [(.nil true 1), (.nil true 1), (.nil true 1)]) (.r 4), none⟩])
  (.seq (.region false [] [⟨none, .mov (.v 0), none⟩, ⟨some 3, .mov (.r 0), none⟩])
  .ret))))))),
  [.v 3]⟩
def ir_impl_withoutTrans : IFun := ⟨[0, 1, 2, 4, 5],
  (.seq (.region false [] [⟨some 2, .box t_impl_Flow 4 (.v 0), none⟩, ⟨some 3, .alloc t_impl_Flow [(.int .i64 0), (.nil false 3), (.int .i64 0), (.int .i64 0)], none⟩])
  (.seq (.region false [] [⟨none, .faddr 0 (.v 2), none⟩, ⟨none, .load true 2 (.r 0), none⟩, ⟨none, .call false f_impl_cloneNet [(.r 1)], none⟩, ⟨some 4, .alloc t_impl_Net [(.int .i64 0), (.nil false 3)], none⟩, ⟨none, .store 2 (.v 4) (.r 2), none⟩])
  (.seq (.region false [] [⟨none, .faddr 1 (.v 4), none⟩, ⟨none, .load false 1 (.r 0), none⟩, ⟨none, .mov (.v 1), none⟩, ⟨none, .mov (.v 1), none⟩, ⟨none, .bin false .add (.r 3) (.c (.int .i64 1)), none⟩, ⟨none, .callm f_slices_Delete_sl_impl_Trans_impl_Trans [(.r 1), (.r 2), (.r 4)], none⟩, ⟨none, .faddr 1 (.v 4), none⟩, ⟨none, .store 1 (.r 6) (.r 5), none⟩])
  (.seq (.region false [] [⟨none, .load true 2 (.v 4), none⟩, ⟨none, .faddr 2 (.v 2), none⟩, ⟨none, .load false 1 (.r 1), none⟩, ⟨none, .faddr 3 (.v 2), none⟩, ⟨none, .load false 1 (.r 3), none⟩, ⟨none, .build [(.int .i64 0), (.nil false 3), (.int .i64 0), (.int .i64 0)] [(0, 2, (.r 0)), (2, 1, (.r 2)), (3, 1, (.r 4))], none⟩, ⟨none, .store 4 (.v 3) (.r 5), none⟩])
  .ret)))),
  [.cell true 4 3]⟩
def ir_impl_maskOf : IFun := ⟨[0, 2, 3, 5, 6, 7, 8, 9],
  (.seq (.region false [] [⟨some 1, .mov (.c (.int .i64 0)), none⟩])
  (.seq (.region false [] [⟨some 2, .mov (.c (.int .i64 0)), none⟩])
  (.seq (.seq (.region false [] [⟨some 4, .mov (.v 0), none⟩, ⟨some 5, .len false (.v 4), none⟩, ⟨some 6, .mov (.c (.int .i64 0)), none⟩])
  (.block 0 (.loop [false, false, true, false, true, true, true, false] (.seq (.region false [] [⟨some 7, .bin false .lss (.v 6) (.v 5), none⟩])
  (.seq (.cond (.v 7) .skip (.exit 0))
  (.seq (.block 1 (.seq (.region false [] [⟨none, .iaddr 1 (.v 4) (.v 6), none⟩, ⟨none, .load false 1 (.r 0), none⟩, ⟨some 3, .mov (.r 1), none⟩])
  (.region false [] [⟨none, .mov (.v 2), none⟩, ⟨none, .mov (.v 3), none⟩, ⟨none, .bin false .shl (.c (.int .i64 1)) (.r 1), none⟩, ⟨none, .bin false .or (.r 0) (.r 2), none⟩, ⟨some 2, .mov (.r 3), none⟩])))
  (.region false [] [⟨none, .bin false .add (.v 6) (.c (.int .i64 1)), none⟩, ⟨some 6, .mov (.r 0), none⟩])))))))
  (.seq (.region false [] [⟨none, .mov (.v 2), none⟩, ⟨some 1, .mov (.r 0), none⟩])
  .ret)))),
  [.v 1]⟩
def ir_impl_setOf : IFun := ⟨[0, 2, 3, 4, 8, 15],
  (.seq (.region false [] [⟨some 1, .nilrow t_int true 1, none⟩])
  (.seq (.region false [] [⟨some 2, .nilrow t_int true 1, none⟩])
  (.seq (.seq (.region false [] [⟨some 3, .mov (.c (.int .i64 0)), none⟩])
  (.block 0 (.loop [true, false, true, true, false, false] (.seq (.seq (.region false [] [⟨none, .mov (.v 0), none⟩, ⟨none, .mov (.v 3), none⟩, ⟨none, .bin false .shr (.r 0) (.r 1), none⟩, ⟨some 4, .bin false .neq (.r 2) (.c (.int .i64 0)), none⟩])
  (.cond (.v 4) .skip (.exit 0)))
  (.seq (.block 1 (.seq (.region false [] [⟨none, .mov (.v 0), none⟩, ⟨none, .mov (.v 3), none⟩, ⟨none, .bin false .shr (.r 0) (.r 1), none⟩, ⟨none, .bin false .and (.r 2) (.c (.int .i64 1)), none⟩, ⟨some 5, .bin false .eql (.r 3) (.c (.int .i64 1)), none⟩])
  (.cond (.v 5) (.region false [] [⟨none, .mov (.v 2), none⟩, ⟨none, .mov (.v 3), none⟩, ⟨none, .bslice false t_int true 1 [(.r 1)], none⟩, ⟨none, .append t_int true 1 (.r 0) (.r 2), none⟩, ⟨some 2, .mov (.r 3), none⟩]) .skip)))
  (.region false [] [⟨none, .mov (.v 3), none⟩, ⟨none, .bin false .add (.r 0) (.c (.int .i64 1)), none⟩, ⟨some 3, .mov (.r 1), none⟩]))))))
  (.seq (.region false [] [⟨none, .mov (.v 2), none⟩, ⟨some 1, .mov (.r 0), none⟩])
  .ret)))),
  [.v 1]⟩
def ir_impl_withoutPlace_1 : IFun := ⟨[0, 1, 3, 6],
  (.seq (.region false [] [⟨some 2, .mov (.c (.int .i64 0)), none⟩])
  (.seq (.seq (.region false [] [⟨none, .mov (.v 0), none⟩, ⟨none, .load false 1 (.v 1), none⟩, ⟨some 3, .bin false .gtr (.r 0) (.r 1), none⟩])
  (.cond (.v 3) (.seq (.region false [] [⟨none, .mov (.v 0), none⟩, ⟨none, .bin false .sub (.r 0) (.c (.int .i64 1)), none⟩, ⟨some 2, .mov (.r 1), none⟩])
  .ret) .skip))
  (.seq (.region false [] [⟨none, .mov (.v 0), none⟩, ⟨some 2, .mov (.r 0), none⟩])
  .ret))),
  [.v 2]⟩
def ir_impl_withoutPlace_2 : IFun := ⟨[0, 1, 2, 4, 5, 7, 8, 9, 10, 11, 16],
  (.seq (.region false [] [⟨some 3, .nilrow t_int true 1, none⟩])
  (.seq (.region false [] [⟨some 4, .nilrow t_int true 1, none⟩])
  (.seq (.seq (.region false [] [⟨some 6, .mov (.v 0), none⟩, ⟨some 7, .len false (.v 6), none⟩, ⟨some 8, .mov (.c (.int .i64 0)), none⟩])
  (.block 0 (.loop [false, true, true, false, true, false, true, true, true, false, false] (.seq (.region false [] [⟨some 9, .bin false .lss (.v 8) (.v 7), none⟩])
  (.seq (.cond (.v 9) .skip (.exit 0))
  (.seq (.block 1 (.seq (.region false [] [⟨none, .iaddr 1 (.v 6) (.v 8), none⟩, ⟨none, .load false 1 (.r 0), none⟩, ⟨some 5, .mov (.r 1), none⟩])
  (.seq (.region false [] [⟨none, .mov (.v 5), none⟩, ⟨none, .load false 1 (.v 1), none⟩, ⟨some 10, .bin false .neq (.r 0) (.r 1), none⟩])
  (.cond (.v 10) (.region false [] [⟨none, .mov (.v 4), none⟩, ⟨none, .load false 1 (.v 2), none⟩, ⟨none, .mov (.v 5), none⟩, ⟨none, .callv false (.r 1) [(.r 2)], none⟩, ⟨none, .bslice false t_int true 1 [(.r 3)], none⟩, ⟨none, .append t_int true 1 (.r 0) (.r 4), none⟩, ⟨some 4, .mov (.r 5), none⟩]) .skip))))
  (.region false [] [⟨none, .bin false .add (.v 8) (.c (.int .i64 1)), none⟩, ⟨some 8, .mov (.r 0), none⟩])))))))
  (.seq (.region false [] [⟨none, .mov (.v 4), none⟩, ⟨some 3, .mov (.r 0), none⟩])
  .ret)))),
  [.v 3]⟩
def ir_impl_withoutPlace : IFun := ⟨[0, 1, 2, 3, 4, 5, 6, 7, 9, 19, 20, 21, 22],
  (.seq (.region false [] [⟨some 2, .box t_impl_Flow 4 (.v 0), none⟩, ⟨some 3, .box t_int 1 (.v 1), none⟩, ⟨some 4, .alloc t_impl_Flow [(.int .i64 0), (.nil false 3), (.int .i64 0), (.int .i64 0)], none⟩])
  (.seq (.region false [] [⟨none, .mkfn f_impl_withoutPlace_1 [(.v 3)], none⟩, ⟨some 5, .alloc t_ty130 [.nilf], none⟩, ⟨none, .stl 1 (.v 5) (.r 0), none⟩])
  (.seq (.region false [] [⟨none, .mkfn f_impl_withoutPlace_2 [(.v 3), (.v 5)], none⟩, ⟨some 6, .mov (.r 0), none⟩])
  (.seq (.region false [] [⟨none, .faddr 0 (.v 2), none⟩, ⟨none, .faddr 0 (.r 0), none⟩, ⟨none, .load false 1 (.r 1), none⟩, ⟨none, .bin false .sub (.r 2) (.c (.int .i64 1)), none⟩, ⟨none, .build [(.int .i64 0), (.nil false 3)] [(0, 1, (.r 3))], none⟩, ⟨some 7, .alloc t_impl_Net [(.int .i64 0), (.nil false 3)], none⟩, ⟨none, .stl 2 (.v 7) (.r 4), none⟩])
  (.seq (.seq (.region false [] [⟨none, .faddr 0 (.v 2), none⟩, ⟨none, .faddr 1 (.r 0), none⟩, ⟨some 9, .load false 1 (.r 1), none⟩, ⟨some 10, .len false (.v 9), none⟩, ⟨some 11, .mov (.c (.int .i64 0)), none⟩])
  (.block 0 (.loop [false, false, true, false, true, true, true, true, false, true, true, true, false] (.seq (.region false [] [⟨some 12, .bin false .lss (.v 11) (.v 10), none⟩])
  (.seq (.cond (.v 12) .skip (.exit 0))
  (.seq (.block 1 (.seq (.region false [] [⟨none, .iaddr 3 (.v 9) (.v 11), none⟩, ⟨none, .load true 3 (.r 0), none⟩, ⟨some 8, .alloc t_impl_Trans [(.nil true 1), (.nil true 1), (.nil true 1)], none⟩, ⟨none, .stl 3 (.v 8) (.r 1), none⟩])
  (.region true [(11, 1), (11, 7), (11, 10), (12, 1), (12, 10), (13, 1), (15, 1)] [⟨none, .faddr 1 (.v 7), none⟩, ⟨none, .load false 1 (.r 0), none⟩, ⟨none, .mov (.v 6), none⟩, ⟨none, .faddr 0 (.v 8), none⟩, ⟨none, .load false 1 (.r 3), none⟩, ⟨none, .mov (.v 6), none⟩, ⟨none, .faddr 1 (.v 8), none⟩, ⟨none, .load false 1 (.r 6), none⟩, ⟨none, .mov (.v 6), none⟩, ⟨none, .faddr 2 (.v 8), none⟩, ⟨none, .load false 1 (.r 9), none⟩, ⟨none, .callv false (.r 2) [(.r 4)], none⟩, ⟨none, .callv false (.r 5) [(.r 7)], none⟩, ⟨none, .callv false (.r 8) [(.r 10)], none⟩, ⟨none, .build [(.nil true 1), (.nil true 1), (.nil true 1)] [(0, 1, (.r 11)), (1, 1, (.r 12)), (2, 1, (.r 13))], none⟩, ⟨none, .bsl t_impl_Trans 3 [(.r 14)], none⟩, ⟨none, .appl t_impl_Trans false 3 (.r 1) (.r 15), none⟩, ⟨none, .faddr 1 (.v 7), none⟩, ⟨none, .stl 1 (.r 17) (.r 16), none⟩])))
  (.region false [] [⟨none, .bin false .add (.v 11) (.c (.int .i64 1)), none⟩, ⟨some 11, .mov (.r 0), none⟩])))))))
  (.seq (.region true [(7, 0), (7, 4), (7, 6), (8, 0)] [⟨none, .load true 2 (.v 7), none⟩, ⟨none, .load false 1 (.v 5), none⟩, ⟨none, .faddr 2 (.v 2), none⟩, ⟨none, .load false 1 (.r 2), none⟩, ⟨none, .load false 1 (.v 5), none⟩, ⟨none, .faddr 3 (.v 2), none⟩, ⟨none, .load false 1 (.r 5), none⟩, ⟨none, .callv false (.r 1) [(.r 3)], none⟩, ⟨none, .callv false (.r 4) [(.r 6)], none⟩, ⟨none, .build [(.int .i64 0), (.nil false 3), (.int .i64 0), (.int .i64 0)] [(0, 2, (.r 0)), (2, 1, (.r 7)), (3, 1, (.r 8))], none⟩, ⟨none, .stl 4 (.v 4) (.r 9), none⟩])
  .ret)))))),
  [.cell true 4 4]⟩
def ir_impl_fusePlaces : IFun := ⟨[0, 1, 2, 3, 4, 5, 6, 7, 8, 9, 10, 11, 14, 15, 16, 17, 30, 63, 69, 70, 71, 72, 79],
  (.seq (.region false [] [⟨some 1, .box t_impl_Flow 4 (.v 0), none⟩, ⟨some 2, .alloc t_impl_Flow [(.int .i64 0), (.nil false 3), (.int .i64 0), (.int .i64 0)], none⟩, ⟨some 3, .mov (.c (.bool false)), none⟩])
  (.seq (.seq (.region false [] [⟨none, .faddr 0 (.v 1), none⟩, ⟨none, .faddr 1 (.r 0), none⟩, ⟨some 12, .load false 1 (.r 1), none⟩, ⟨some 13, .len false (.v 12), none⟩, ⟨some 14, .mov (.c (.int .i64 0)), none⟩])
  (.block 0 (.loop [false, true, true, false, false, false, false, false, false, false, false, false, true, true, true, false, false, false, false, false, false, false, false] (.seq (.region false [] [⟨some 15, .bin false .lss (.v 14) (.v 13), none⟩])
  (.seq (.cond (.v 15) .skip (.exit 0))
  (.seq (.block 1 (.seq (.region false [] [⟨none, .mov (.v 14), none⟩, ⟨none, .iaddr 3 (.v 12) (.v 14), none⟩, ⟨none, .load true 3 (.r 1), none⟩, ⟨some 5, .alloc t_impl_Trans [(.nil true 1), (.nil true 1), (.nil true 1)], none⟩, ⟨some 4, .mov (.r 0), none⟩, ⟨none, .stl 3 (.v 5) (.r 2), none⟩])
  (.seq (.seq (.region false [] [⟨none, .faddr 0 (.v 5), none⟩, ⟨none, .load false 1 (.r 0), none⟩, ⟨none, .len false (.r 1), none⟩, ⟨none, .bin false .neq (.r 2) (.c (.int .i64 1)), none⟩, ⟨none, .mov (.r 3), none⟩, ⟨none, .faddr 1 (.v 5), some (4, false)⟩, ⟨none, .load false 1 (.r 5), some (4, false)⟩, ⟨none, .len false (.r 6), some (4, false)⟩, ⟨none, .bin false .neq (.r 7) (.c (.int .i64 1)), some (4, false)⟩, ⟨some 16, .pick (.r 4) (.c (.bool true)) (.r 8), none⟩])
  (.cond (.v 16) (.exit 1) .skip))
  (.seq (.region true [(10, 5), (10, 7)] [⟨none, .faddr 0 (.v 5), none⟩, ⟨none, .load false 1 (.r 0), none⟩, ⟨none, .iaddr 1 (.r 1) (.c (.int .i64 0)), none⟩, ⟨none, .load false 1 (.r 2), none⟩, ⟨none, .faddr 1 (.v 5), none⟩, ⟨none, .load false 1 (.r 4), none⟩, ⟨none, .iaddr 1 (.r 5) (.c (.int .i64 0)), none⟩, ⟨none, .load false 1 (.r 6), none⟩, ⟨some 6, .alloc t_int [(.int .i64 0)], none⟩, ⟨some 7, .alloc t_int [(.int .i64 0)], none⟩, ⟨none, .stl 1 (.v 6) (.r 3), none⟩, ⟨none, .stl 1 (.v 7) (.r 7), none⟩])
  (.seq (.region false [] [⟨none, .faddr 0 (.v 1), none⟩, ⟨none, .faddr 1 (.r 0), none⟩, ⟨none, .load false 1 (.r 1), none⟩, ⟨none, .mkfn f_impl_fusePlaces_1 [(.v 6), (.v 7)], none⟩, ⟨none, .call false f_slices_ContainsFunc_sl_impl_Trans_impl_Trans [(.r 2), (.r 3)], none⟩, ⟨some 8, .mov (.r 4), none⟩])
  (.seq (.seq (.region false [] [⟨none, .load false 1 (.v 6), none⟩, ⟨none, .faddr 2 (.v 1), none⟩, ⟨none, .load false 1 (.r 1), none⟩, ⟨none, .bin false .eql (.r 0) (.r 2), none⟩, ⟨none, .mov (.r 3), none⟩, ⟨none, .load false 1 (.v 6), some (4, false)⟩, ⟨none, .load false 1 (.v 7), some (4, false)⟩, ⟨none, .bin false .eql (.r 5) (.r 6), some (4, false)⟩, ⟨none, .pick (.r 4) (.c (.bool true)) (.r 7), none⟩, ⟨none, .mov (.r 8), none⟩, ⟨none, .faddr 0 (.v 1), some (9, false)⟩, ⟨none, .load true 2 (.r 10), some (9, false)⟩, ⟨none, .load false 1 (.v 6), some (9, false)⟩, ⟨none, .call false f_impl_withTrans [(.r 11), (.r 12), (.c (.bool false))], some (9, false)⟩, ⟨none, .len false (.r 13), some (9, false)⟩, ⟨none, .bin false .neq (.r 14) (.c (.int .i64 1)), some (9, false)⟩, ⟨none, .pick (.r 9) (.c (.bool true)) (.r 15), none⟩, ⟨none, .mov (.r 16), none⟩, ⟨none, .mov (.v 8), some (17, false)⟩, ⟨some 17, .pick (.r 17) (.c (.bool true)) (.r 18), none⟩])
  (.cond (.v 17) (.exit 1) .skip))
  (.seq (.region false [] [⟨none, .load true 4 (.v 1), none⟩, ⟨none, .mov (.v 4), none⟩, ⟨none, .call false f_impl_withoutTrans [(.r 0), (.r 1)], none⟩, ⟨some 9, .alloc t_impl_Flow [(.int .i64 0), (.nil false 3), (.int .i64 0), (.int .i64 0)], none⟩, ⟨none, .stl 4 (.v 9) (.r 2), none⟩])
  (.seq (.seq (.region false [] [⟨none, .faddr 0 (.v 9), none⟩, ⟨none, .faddr 1 (.r 0), none⟩, ⟨some 18, .load false 1 (.r 1), none⟩, ⟨some 19, .len false (.v 18), none⟩, ⟨some 20, .mov (.c (.int .i64 0)), none⟩])
  (.block 2 (.loop [false, false, true, false, false, false, true, true, false, true, false, false, false, false, false, false, false, false, true, true, true, false, false] (.seq (.region false [] [⟨some 21, .bin false .lss (.v 20) (.v 19), none⟩])
  (.seq (.cond (.v 21) .skip (.exit 2))
  (.seq (.block 3 (.seq (.region false [] [⟨none, .mov (.v 20), none⟩, ⟨none, .iaddr 3 (.v 18) (.v 20), none⟩, ⟨none, .load true 3 (.r 1), none⟩, ⟨some 11, .alloc t_impl_Trans [(.nil true 1), (.nil true 1), (.nil true 1)], none⟩, ⟨some 10, .mov (.r 0), none⟩, ⟨none, .stl 3 (.v 11) (.r 2), none⟩])
  (.seq (.region false [] [⟨none, .faddr 1 (.v 11), none⟩, ⟨none, .load false 1 (.r 0), none⟩, ⟨none, .load false 1 (.v 6), none⟩, ⟨some 22, .call false f_slices_Contains_sl_int_int [(.r 1), (.r 2)], none⟩])
  (.cond (.v 22) (.region true [(10, 2), (10, 6), (10, 8), (13, 2)] [⟨none, .faddr 0 (.v 9), none⟩, ⟨none, .faddr 1 (.r 0), none⟩, ⟨none, .load false 1 (.r 1), none⟩, ⟨none, .mov (.v 10), none⟩, ⟨none, .faddr 1 (.v 11), none⟩, ⟨none, .load false 1 (.r 4), none⟩, ⟨none, .load false 1 (.v 6), none⟩, ⟨none, .bin false .shl (.c (.int .i64 1)) (.r 6), none⟩, ⟨none, .load false 1 (.v 7), none⟩, ⟨none, .bin false .shl (.c (.int .i64 1)) (.r 8), none⟩, ⟨none, .call false f_impl_maskOf [(.r 5)], none⟩, ⟨none, .bin false .andNot (.r 10) (.r 7), none⟩, ⟨none, .bin false .or (.r 11) (.r 9), none⟩, ⟨none, .call false f_impl_setOf [(.r 12)], none⟩, ⟨none, .iaddr 3 (.r 2) (.r 3), none⟩, ⟨none, .faddr 1 (.r 14), none⟩, ⟨none, .stl 1 (.r 15) (.r 13), none⟩]) .skip))))
  (.region false [] [⟨none, .bin false .add (.v 20) (.c (.int .i64 1)), none⟩, ⟨some 20, .mov (.r 0), none⟩])))))))
  (.seq (.region false [] [⟨none, .load true 4 (.v 9), none⟩, ⟨none, .load false 1 (.v 6), none⟩, ⟨none, .call false f_impl_withoutPlace [(.r 0), (.r 1)], none⟩, ⟨none, .stl 4 (.v 2) (.r 2), none⟩, ⟨some 3, .mov (.c (.bool true)), none⟩])
  .ret)))))))))
  (.region false [] [⟨none, .bin false .add (.v 14) (.c (.int .i64 1)), none⟩, ⟨some 14, .mov (.r 0), none⟩])))))))
  (.seq (.region false [] [⟨none, .build [(.int .i64 0), (.nil false 3), (.int .i64 0), (.int .i64 0)] [], none⟩, ⟨none, .stl 4 (.v 2) (.r 0), none⟩, ⟨some 3, .mov (.c (.bool false)), none⟩])
  .ret))),
  [.cell true 4 2, .v 3]⟩
def ir_impl_FusePlaces : IFun := ⟨[0, 1, 2, 3, 6],
  (.seq (.region false [] [⟨some 1, .box t_impl_Flow 4 (.v 0), none⟩, ⟨some 2, .alloc t_impl_Flow [(.int .i64 0), (.nil false 3), (.int .i64 0), (.int .i64 0)], none⟩, ⟨some 3, .mov (.c (.bool false)), none⟩])
  (.seq (.seq (.region false [] [⟨none, .load true 4 (.v 1), none⟩, ⟨none, .call false f_impl_isReducible [(.r 0)], none⟩, ⟨some 4, .not (.r 1), none⟩])
  (.cond (.v 4) (.seq (.region false [] [⟨none, .build [(.int .i64 0), (.nil false 3), (.int .i64 0), (.int .i64 0)] [], none⟩, ⟨none, .stl 4 (.v 2) (.r 0), none⟩, ⟨some 3, .mov (.c (.bool false)), none⟩])
  .ret) .skip))
  (.seq (.region false [] [⟨none, .load true 4 (.v 1), none⟩, ⟨none, .call false f_impl_fusePlaces [(.r 0)], none⟩, ⟨none, .extract (.r 1) 0, none⟩, ⟨none, .extract (.r 1) 1, none⟩, ⟨none, .stl 4 (.v 2) (.r 2), none⟩, ⟨some 3, .mov (.r 3), none⟩])
  .ret))),
  [.cell true 4 2, .v 3]⟩
def ir_laws_eqIntS : IFun := ⟨[0, 1, 4, 5, 10, 14, 25],
  (.seq (.region false [] [⟨some 2, .mov (.c (.bool false)), none⟩])
  (.seq (.seq (.region false [] [⟨none, .mov (.v 0), none⟩, ⟨none, .len false (.r 0), none⟩, ⟨none, .mov (.v 1), none⟩, ⟨none, .len false (.r 2), none⟩, ⟨some 4, .bin false .neq (.r 1) (.r 3), none⟩])
  (.cond (.v 4) (.seq (.region false [] [⟨some 2, .mov (.c (.bool false)), none⟩])
  .ret) .skip))
  (.seq (.seq (.region false [] [⟨some 3, .mov (.c (.int .i64 0)), none⟩])
  (.block 0 (.loop [true, true, false, true, false, false, false] (.seq (.seq (.region false [] [⟨none, .mov (.v 3), none⟩, ⟨none, .mov (.v 0), none⟩, ⟨none, .len false (.r 1), none⟩, ⟨some 5, .bin false .lss (.r 0) (.r 2), none⟩])
  (.cond (.v 5) .skip (.exit 0)))
  (.seq (.block 1 (.seq (.region true [] [⟨none, .mov (.v 0), none⟩, ⟨none, .mov (.v 3), none⟩, ⟨none, .iaddr 1 (.r 0) (.r 1), none⟩, ⟨none, .load false 1 (.r 2), none⟩, ⟨none, .mov (.v 1), none⟩, ⟨none, .mov (.v 3), none⟩, ⟨none, .iaddr 1 (.r 4) (.r 5), none⟩, ⟨none, .load false 1 (.r 6), none⟩, ⟨some 6, .bin false .neq (.r 3) (.r 7), none⟩])
  (.cond (.v 6) (.seq (.region false [] [⟨some 2, .mov (.c (.bool false)), none⟩])
  .ret) .skip)))
  (.region false [] [⟨none, .mov (.v 3), none⟩, ⟨none, .bin false .add (.r 0) (.c (.int .i64 1)), none⟩, ⟨some 3, .mov (.r 1), none⟩]))))))
  (.seq (.region false [] [⟨some 2, .mov (.c (.bool true)), none⟩])
  .ret)))),
  [.v 2]⟩
def ir_laws_eqTrans : IFun := ⟨[0, 1, 2, 3, 4, 10, 16, 22],
  (.seq (.region false [] [⟨some 2, .box t_impl_Trans 3 (.v 0), none⟩, ⟨some 3, .box t_impl_Trans 3 (.v 1), none⟩, ⟨some 4, .mov (.c (.bool false)), none⟩])
  (.seq (.seq (.region false [] [⟨none, .faddr 0 (.v 2), none⟩, ⟨none, .load false 1 (.r 0), none⟩, ⟨none, .faddr 0 (.v 3), none⟩, ⟨none, .load false 1 (.r 2), none⟩, ⟨none, .call false f_laws_eqIntS [(.r 1), (.r 3)], none⟩, ⟨some 5, .not (.r 4), none⟩])
  (.cond (.v 5) (.seq (.region false [] [⟨some 4, .mov (.c (.bool false)), none⟩])
  .ret) .skip))
  (.seq (.seq (.region false [] [⟨none, .faddr 1 (.v 2), none⟩, ⟨none, .load false 1 (.r 0), none⟩, ⟨none, .faddr 1 (.v 3), none⟩, ⟨none, .load false 1 (.r 2), none⟩, ⟨none, .call false f_laws_eqIntS [(.r 1), (.r 3)], none⟩, ⟨some 6, .not (.r 4), none⟩])
  (.cond (.v 6) (.seq (.region false [] [⟨some 4, .mov (.c (.bool false)), none⟩])
  .ret) .skip))
  (.seq (.seq (.region false [] [⟨none, .faddr 2 (.v 2), none⟩, ⟨none, .load false 1 (.r 0), none⟩, ⟨none, .faddr 2 (.v 3), none⟩, ⟨none, .load false 1 (.r 2), none⟩, ⟨none, .call false f_laws_eqIntS [(.r 1), (.r 3)], none⟩, ⟨some 7, .not (.r 4), none⟩])
  (.cond (.v 7) (.seq (.region false [] [⟨some 4, .mov (.c (.bool false)), none⟩])
  .ret) .skip))
  (.seq (.region false [] [⟨some 4, .mov (.c (.bool true)), none⟩])
  .ret))))),
  [.v 4]⟩
def ir_laws_eqTransS : IFun := ⟨[0, 1, 4, 5, 10, 14, 26],
  (.seq (.region false [] [⟨some 2, .mov (.c (.bool false)), none⟩])
  (.seq (.seq (.region false [] [⟨none, .mov (.v 0), none⟩, ⟨none, .len false (.r 0), none⟩, ⟨none, .mov (.v 1), none⟩, ⟨none, .len false (.r 2), none⟩, ⟨some 4, .bin false .neq (.r 1) (.r 3), none⟩])
  (.cond (.v 4) (.seq (.region false [] [⟨some 2, .mov (.c (.bool false)), none⟩])
  .ret) .skip))
  (.seq (.seq (.region false [] [⟨some 3, .mov (.c (.int .i64 0)), none⟩])
  (.block 0 (.loop [true, true, false, true, false, false, false] (.seq (.seq (.region false [] [⟨none, .mov (.v 3), none⟩, ⟨none, .mov (.v 0), none⟩, ⟨none, .len false (.r 1), none⟩, ⟨some 5, .bin false .lss (.r 0) (.r 2), none⟩])
  (.cond (.v 5) .skip (.exit 0)))
  (.seq (.block 1 (.seq (.region true [] [⟨none, .mov (.v 0), none⟩, ⟨none, .mov (.v 3), none⟩, ⟨none, .iaddr 3 (.r 0) (.r 1), none⟩, ⟨none, .load true 3 (.r 2), none⟩, ⟨none, .mov (.v 1), none⟩, ⟨none, .mov (.v 3), none⟩, ⟨none, .iaddr 3 (.r 4) (.r 5), none⟩, ⟨none, .load true 3 (.r 6), none⟩, ⟨none, .call false f_laws_eqTrans [(.r 3), (.r 7)], none⟩, ⟨some 6, .not (.r 8), none⟩])
  (.cond (.v 6) (.seq (.region false [] [⟨some 2, .mov (.c (.bool false)), none⟩])
  .ret) .skip)))
  (.region false [] [⟨none, .mov (.v 3), none⟩, ⟨none, .bin false .add (.r 0) (.c (.int .i64 1)), none⟩, ⟨some 3, .mov (.r 1), none⟩]))))))
  (.seq (.region false [] [⟨some 2, .mov (.c (.bool true)), none⟩])
  .ret)))),
  [.v 2]⟩
def ir_laws_eqNet : IFun := ⟨[0, 1, 2, 3, 4, 9, 15],
  (.seq (.region false [] [⟨some 2, .box t_impl_Net 2 (.v 0), none⟩, ⟨some 3, .box t_impl_Net 2 (.v 1), none⟩, ⟨some 4, .mov (.c (.bool false)), none⟩])
  (.seq (.seq (.region false [] [⟨none, .faddr 0 (.v 2), none⟩, ⟨none, .load false 1 (.r 0), none⟩, ⟨none, .faddr 0 (.v 3), none⟩, ⟨none, .load false 1 (.r 2), none⟩, ⟨some 5, .bin false .neq (.r 1) (.r 3), none⟩])
  (.cond (.v 5) (.seq (.region false [] [⟨some 4, .mov (.c (.bool false)), none⟩])
  .ret) .skip))
  (.seq (.seq (.region false [] [⟨none, .faddr 1 (.v 2), none⟩, ⟨none, .load false 1 (.r 0), none⟩, ⟨none, .faddr 1 (.v 3), none⟩, ⟨none, .load false 1 (.r 2), none⟩, ⟨none, .call false f_laws_eqTransS [(.r 1), (.r 3)], none⟩, ⟨some 6, .not (.r 4), none⟩])
  (.cond (.v 6) (.seq (.region false [] [⟨some 4, .mov (.c (.bool false)), none⟩])
  .ret) .skip))
  (.seq (.region false [] [⟨some 4, .mov (.c (.bool true)), none⟩])
  .ret)))),
  [.v 4]⟩
def ir_laws_eqFlow : IFun := ⟨[0, 1, 2, 3, 4, 10, 15, 20],
  (.seq (.region false [] [⟨some 2, .box t_impl_Flow 4 (.v 0), none⟩, ⟨some 3, .box t_impl_Flow 4 (.v 1), none⟩, ⟨some 4, .mov (.c (.bool false)), none⟩])
  (.seq (.seq (.region false [] [⟨none, .faddr 0 (.v 2), none⟩, ⟨none, .load true 2 (.r 0), none⟩, ⟨none, .faddr 0 (.v 3), none⟩, ⟨none, .load true 2 (.r 2), none⟩, ⟨none, .call false f_laws_eqNet [(.r 1), (.r 3)], none⟩, ⟨some 5, .not (.r 4), none⟩])
  (.cond (.v 5) (.seq (.region false [] [⟨some 4, .mov (.c (.bool false)), none⟩])
  .ret) .skip))
  (.seq (.seq (.region false [] [⟨none, .faddr 2 (.v 2), none⟩, ⟨none, .load false 1 (.r 0), none⟩, ⟨none, .faddr 2 (.v 3), none⟩, ⟨none, .load false 1 (.r 2), none⟩, ⟨some 6, .bin false .neq (.r 1) (.r 3), none⟩])
  (.cond (.v 6) (.seq (.region false [] [⟨some 4, .mov (.c (.bool false)), none⟩])
  .ret) .skip))
  (.seq (.seq (.region false [] [⟨none, .faddr 3 (.v 2), none⟩, ⟨none, .load false 1 (.r 0), none⟩, ⟨none, .faddr 3 (.v 3), none⟩, ⟨none, .load false 1 (.r 2), none⟩, ⟨some 7, .bin false .neq (.r 1) (.r 3), none⟩])
  (.cond (.v 7) (.seq (.region false [] [⟨some 4, .mov (.c (.bool false)), none⟩])
  .ret) .skip))
  (.seq (.region false [] [⟨some 4, .mov (.c (.bool true)), none⟩])
  .ret))))),
  [.v 4]⟩
def ir_laws_markIntS : IFun := ⟨[0, 1, 4, 5, 9],
  (.seq (.region false [] [⟨some 2, .mov (.c (.int .i64 0)), none⟩])
  (.seq (.seq (.region false [] [⟨some 3, .mov (.c (.int .i64 0)), none⟩])
  (.block 0 (.loop [true, true, false, true, false] (.seq (.seq (.region false [] [⟨none, .mov (.v 3), none⟩, ⟨none, .mov (.v 0), none⟩, ⟨none, .len false (.r 1), none⟩, ⟨some 4, .bin false .lss (.r 0) (.r 2), none⟩])
  (.cond (.v 4) .skip (.exit 0)))
  (.seq (.block 1 (.seq (.region false [] [⟨none, .mov (.v 0), none⟩, ⟨none, .mov (.v 3), none⟩, ⟨none, .mov (.v 1), none⟩, ⟨none, .iaddr 1 (.r 0) (.r 1), none⟩, ⟨none, .stl 1 (.r 3) (.r 2), none⟩])
  (.region false [] [⟨none, .mov (.v 1), none⟩, ⟨none, .bin false .add (.r 0) (.c (.int .i64 1)), none⟩, ⟨some 1, .mov (.r 1), none⟩])))
  (.region false [] [⟨none, .mov (.v 3), none⟩, ⟨none, .bin false .add (.r 0) (.c (.int .i64 1)), none⟩, ⟨some 3, .mov (.r 1), none⟩]))))))
  (.seq (.region false [] [⟨none, .mov (.v 1), none⟩, ⟨some 2, .mov (.r 0), none⟩])
  .ret))),
  [.v 2]⟩
def ir_laws_markTransS : IFun := ⟨[0, 1, 4, 5, 9],
  (.seq (.region false [] [⟨some 2, .mov (.c (.int .i64 0)), none⟩])
  (.seq (.seq (.region false [] [⟨some 3, .mov (.c (.int .i64 0)), none⟩])
  (.block 0 (.loop [true, true, false, true, false] (.seq (.seq (.region false [] [⟨none, .mov (.v 3), none⟩, ⟨none, .mov (.v 0), none⟩, ⟨none, .len false (.r 1), none⟩, ⟨some 4, .bin false .lss (.r 0) (.r 2), none⟩])
  (.cond (.v 4) .skip (.exit 0)))
  (.seq (.block 1 (.seq (.kreg [⟨none, .mov (.v 0), none⟩, ⟨none, .mov (.v 3), none⟩, ⟨none, .iaddr 3 (.r 0) (.r 1), none⟩, ⟨none, .faddr 0 (.r 2), none⟩, ⟨none, .load false 1 (.r 3), none⟩, ⟨none, .mov (.v 1), none⟩, ⟨none, .callm f_laws_markIntS [(.r 4), (.r 5)], none⟩, ⟨some 1, .mov (.r 6), none⟩])
  (.seq (.kreg [⟨none, .mov (.v 0), none⟩, ⟨none, .mov (.v 3), none⟩, ⟨none, .iaddr 3 (.r 0) (.r 1), none⟩, ⟨none, .faddr 1 (.r 2), none⟩, ⟨none, .load false 1 (.r 3), none⟩, ⟨none, .mov (.v 1), none⟩, ⟨none, .callm f_laws_markIntS [(.r 4), (.r 5)], none⟩, ⟨some 1, .mov (.r 6), none⟩])
  (.kreg [⟨none, .mov (.v 0), none⟩, ⟨none, .mov (.v 3), none⟩, ⟨none, .iaddr 3 (.r 0) (.r 1), none⟩, ⟨none, .faddr 2 (.r 2), none⟩, ⟨none, .load false 1 (.r 3), none⟩, ⟨none, .mov (.v 1), none⟩, ⟨none, .callm f_laws_markIntS [(.r 4), (.r 5)], none⟩, ⟨some 1, .mov (.r 6), none⟩]))))
  (.region false [] [⟨none, .mov (.v 3), none⟩, ⟨none, .bin false .add (.r 0) (.c (.int .i64 1)), none⟩, ⟨some 3, .mov (.r 1), none⟩]))))))
  (.seq (.region false [] [⟨none, .mov (.v 1), none⟩, ⟨some 2, .mov (.r 0), none⟩])
  .ret))),
  [.v 2]⟩
def ir_laws_markNet : IFun := ⟨[0, 1, 2, 4],
  (.seq (.region false [] [⟨some 2, .box t_impl_Net 2 (.v 0), none⟩, ⟨some 3, .mov (.c (.int .i64 0)), none⟩])
  (.seq (.region false [] [⟨none, .faddr 1 (.v 2), none⟩, ⟨none, .load false 1 (.r 0), none⟩, ⟨none, .mov (.v 1), none⟩, ⟨none, .callm f_laws_markTransS [(.r 1), (.r 2)], none⟩, ⟨some 1, .mov (.r 3), none⟩])
  (.seq (.region false [] [⟨none, .mov (.v 1), none⟩, ⟨some 3, .mov (.r 0), none⟩])
  .ret))),
  [.v 3]⟩
def ir_laws_markFlow : IFun := ⟨[0, 1, 2, 4],
  (.seq (.region false [] [⟨some 2, .box t_impl_Flow 4 (.v 0), none⟩, ⟨some 3, .mov (.c (.int .i64 0)), none⟩])
  (.seq (.region false [] [⟨none, .faddr 0 (.v 2), none⟩, ⟨none, .load true 2 (.r 0), none⟩, ⟨none, .mov (.v 1), none⟩, ⟨none, .callm f_laws_markNet [(.r 1), (.r 2)], none⟩, ⟨some 1, .mov (.r 3), none⟩])
  (.seq (.region false [] [⟨none, .mov (.v 1), none⟩, ⟨some 3, .mov (.r 0), none⟩])
  .ret))),
  [.v 3]⟩
def ir_laws_heldIntS : IFun := ⟨[0, 1, 4, 5, 9, 17],
  (.seq (.region false [] [⟨some 2, .mov (.c (.int .i64 0)), none⟩])
  (.seq (.seq (.region false [] [⟨some 3, .mov (.c (.int .i64 0)), none⟩])
  (.block 0 (.loop [true, true, false, true, false, false] (.seq (.seq (.region false [] [⟨none, .mov (.v 3), none⟩, ⟨none, .mov (.v 0), none⟩, ⟨none, .len false (.r 1), none⟩, ⟨some 4, .bin false .lss (.r 0) (.r 2), none⟩])
  (.cond (.v 4) .skip (.exit 0)))
  (.seq (.block 1 (.seq (.seq (.region false [] [⟨none, .mov (.v 0), none⟩, ⟨none, .mov (.v 3), none⟩, ⟨none, .iaddr 1 (.r 0) (.r 1), none⟩, ⟨none, .load false 1 (.r 2), none⟩, ⟨none, .mov (.v 1), none⟩, ⟨some 5, .bin false .neq (.r 3) (.r 4), none⟩])
  (.cond (.v 5) (.seq (.region false [] [⟨some 2, .mov (.c (.int .i64 (-1))), none⟩])
  .ret) .skip))
  (.region false [] [⟨none, .mov (.v 1), none⟩, ⟨none, .bin false .add (.r 0) (.c (.int .i64 1)), none⟩, ⟨some 1, .mov (.r 1), none⟩])))
  (.region false [] [⟨none, .mov (.v 3), none⟩, ⟨none, .bin false .add (.r 0) (.c (.int .i64 1)), none⟩, ⟨some 3, .mov (.r 1), none⟩]))))))
  (.seq (.region false [] [⟨none, .mov (.v 1), none⟩, ⟨some 2, .mov (.r 0), none⟩])
  .ret))),
  [.v 2]⟩
def ir_laws_heldTransS : IFun := ⟨[0, 1, 4, 5, 9, 20, 29, 38],
  (.seq (.region false [] [⟨some 2, .mov (.c (.int .i64 0)), none⟩])
  (.seq (.seq (.region false [] [⟨some 3, .mov (.c (.int .i64 0)), none⟩])
  (.block 0 (.loop [true, true, false, true, false, false, false, false] (.seq (.seq (.region false [] [⟨none, .mov (.v 3), none⟩, ⟨none, .mov (.v 0), none⟩, ⟨none, .len false (.r 1), none⟩, ⟨some 4, .bin false .lss (.r 0) (.r 2), none⟩])
  (.cond (.v 4) .skip (.exit 0)))
  (.seq (.block 1 (.seq (.region false [] [⟨none, .mov (.v 0), none⟩, ⟨none, .mov (.v 3), none⟩, ⟨none, .iaddr 3 (.r 0) (.r 1), none⟩, ⟨none, .faddr 0 (.r 2), none⟩, ⟨none, .load false 1 (.r 3), none⟩, ⟨none, .mov (.v 1), none⟩, ⟨none, .call false f_laws_heldIntS [(.r 4), (.r 5)], none⟩, ⟨some 1, .mov (.r 6), none⟩])
  (.seq (.seq (.region false [] [⟨none, .mov (.v 1), none⟩, ⟨some 5, .bin false .lss (.r 0) (.c (.int .i64 0)), none⟩])
  (.cond (.v 5) (.seq (.region false [] [⟨some 2, .mov (.c (.int .i64 (-1))), none⟩])
  .ret) .skip))
  (.seq (.region false [] [⟨none, .mov (.v 0), none⟩, ⟨none, .mov (.v 3), none⟩, ⟨none, .iaddr 3 (.r 0) (.r 1), none⟩, ⟨none, .faddr 1 (.r 2), none⟩, ⟨none, .load false 1 (.r 3), none⟩, ⟨none, .mov (.v 1), none⟩, ⟨none, .call false f_laws_heldIntS [(.r 4), (.r 5)], none⟩, ⟨some 1, .mov (.r 6), none⟩])
  (.seq (.seq (.region false [] [⟨none, .mov (.v 1), none⟩, ⟨some 6, .bin false .lss (.r 0) (.c (.int .i64 0)), none⟩])
  (.cond (.v 6) (.seq (.region false [] [⟨some 2, .mov (.c (.int .i64 (-1))), none⟩])
  .ret) .skip))
  (.seq (.region false [] [⟨none, .mov (.v 0), none⟩, ⟨none, .mov (.v 3), none⟩, ⟨none, .iaddr 3 (.r 0) (.r 1), none⟩, ⟨none, .faddr 2 (.r 2), none⟩, ⟨none, .load false 1 (.r 3), none⟩, ⟨none, .mov (.v 1), none⟩, ⟨none, .call false f_laws_heldIntS [(.r 4), (.r 5)], none⟩, ⟨some 1, .mov (.r 6), none⟩])
  (.seq (.region false [] [⟨none, .mov (.v 1), none⟩, ⟨some 7, .bin false .lss (.r 0) (.c (.int .i64 0)), none⟩])
  (.cond (.v 7) (.seq (.region false [] [⟨some 2, .mov (.c (.int .i64 (-1))), none⟩])
  .ret) .skip))))))))
  (.region false [] [⟨none, .mov (.v 3), none⟩, ⟨none, .bin false .add (.r 0) (.c (.int .i64 1)), none⟩, ⟨some 3, .mov (.r 1), none⟩]))))))
  (.seq (.region false [] [⟨none, .mov (.v 1), none⟩, ⟨some 2, .mov (.r 0), none⟩])
  .ret))),
  [.v 2]⟩
def ir_laws_heldNet : IFun := ⟨[0, 1, 2, 4, 10],
  (.seq (.region false [] [⟨some 2, .box t_impl_Net 2 (.v 0), none⟩, ⟨some 3, .mov (.c (.int .i64 0)), none⟩])
  (.seq (.region false [] [⟨none, .faddr 1 (.v 2), none⟩, ⟨none, .load false 1 (.r 0), none⟩, ⟨none, .mov (.v 1), none⟩, ⟨none, .call false f_laws_heldTransS [(.r 1), (.r 2)], none⟩, ⟨some 1, .mov (.r 3), none⟩])
  (.seq (.seq (.region false [] [⟨none, .mov (.v 1), none⟩, ⟨some 4, .bin false .lss (.r 0) (.c (.int .i64 0)), none⟩])
  (.cond (.v 4) (.seq (.region false [] [⟨some 3, .mov (.c (.int .i64 (-1))), none⟩])
  .ret) .skip))
  (.seq (.region false [] [⟨none, .mov (.v 1), none⟩, ⟨some 3, .mov (.r 0), none⟩])
  .ret)))),
  [.v 3]⟩
def ir_laws_heldFlow : IFun := ⟨[0, 1, 2, 4, 10],
  (.seq (.region false [] [⟨some 2, .box t_impl_Flow 4 (.v 0), none⟩, ⟨some 3, .mov (.c (.int .i64 0)), none⟩])
  (.seq (.region false [] [⟨none, .faddr 0 (.v 2), none⟩, ⟨none, .load true 2 (.r 0), none⟩, ⟨none, .mov (.v 1), none⟩, ⟨none, .call false f_laws_heldNet [(.r 1), (.r 2)], none⟩, ⟨some 1, .mov (.r 3), none⟩])
  (.seq (.seq (.region false [] [⟨none, .mov (.v 1), none⟩, ⟨some 4, .bin false .lss (.r 0) (.c (.int .i64 0)), none⟩])
  (.cond (.v 4) (.seq (.region false [] [⟨some 3, .mov (.c (.int .i64 (-1))), none⟩])
  .ret) .skip))
  (.seq (.region false [] [⟨none, .mov (.v 1), none⟩, ⟨some 3, .mov (.r 0), none⟩])
  .ret)))),
  [.v 3]⟩
def ir_laws_FnExactFusePlaces : IFun := ⟨[0, 1, 2, 3, 4, 5, 6, 7, 8, 9, 10, 11, 12, 13, 18, 40, 45, 61, 69, 72, 87, 92, 95],
  (.seq (.region false [] [⟨some 1, .box t_laws_Flow 4 (.v 0), none⟩, ⟨some 2, .mov (.c (.bool false)), none⟩])
  (.seq (.region false [] [⟨some 3, .mov (.c (.int .i64 1048576)), none⟩])
  (.seq (.region false [] [⟨none, .load true 4 (.v 1), none⟩, ⟨none, .mov (.v 3), none⟩, ⟨none, .call false f_laws_szFlow [(.r 0), (.r 1)], none⟩, ⟨some 3, .mov (.r 2), none⟩])
  (.seq (.seq (.region false [] [⟨none, .mov (.v 3), none⟩, ⟨some 14, .bin false .lss (.r 0) (.c (.int .i64 0)), none⟩])
  (.cond (.v 14) (.seq (.region false [] [⟨some 2, .mov (.c (.bool true)), none⟩])
  .ret) .skip))
  (.seq (.region false [] [⟨none, .load true 4 (.v 1), none⟩, ⟨none, .call false f_laws_toFlow [(.r 0)], none⟩, ⟨none, .call false f_spec_FusePlaces [(.r 1)], none⟩, ⟨none, .mov (.r 2), none⟩, ⟨none, .extract (.r 3) 0, none⟩, ⟨none, .extract (.r 3) 1, none⟩, ⟨some 4, .alloc t_impl_Flow [(.int .i64 0), (.nil false 3), (.int .i64 0), (.int .i64 0)], none⟩, ⟨none, .store 4 (.v 4) (.r 4), none⟩, ⟨some 5, .mov (.r 5), none⟩])
  (.seq (.region false [] [⟨none, .load true 4 (.v 1), none⟩, ⟨none, .call false f_laws_toFlow [(.r 0)], none⟩, ⟨some 6, .alloc t_impl_Flow [(.int .i64 0), (.nil false 3), (.int .i64 0), (.int .i64 0)], none⟩, ⟨none, .store 4 (.v 6) (.r 1), none⟩])
  (.seq (.region false [] [⟨none, .load true 4 (.v 6), none⟩, ⟨none, .call false f_impl_FusePlaces [(.r 0)], none⟩, ⟨none, .mov (.r 1), none⟩, ⟨none, .extract (.r 2) 0, none⟩, ⟨none, .extract (.r 2) 1, none⟩, ⟨some 7, .alloc t_impl_Flow [(.int .i64 0), (.nil false 3), (.int .i64 0), (.int .i64 0)], none⟩, ⟨none, .store 4 (.v 7) (.r 3), none⟩, ⟨some 8, .mov (.r 4), none⟩])
  (.seq (.seq (.region false [] [⟨none, .load true 4 (.v 7), none⟩, ⟨none, .load true 4 (.v 4), none⟩, ⟨none, .call false f_laws_eqFlow [(.r 0), (.r 1)], none⟩, ⟨none, .not (.r 2), none⟩, ⟨none, .mov (.r 3), none⟩, ⟨none, .mov (.v 8), some (4, false)⟩, ⟨none, .mov (.v 5), some (4, false)⟩, ⟨none, .bin true .neq (.r 5) (.r 6), some (4, false)⟩, ⟨some 15, .pick (.r 4) (.c (.bool true)) (.r 7), none⟩])
  (.cond (.v 15) (.seq (.region false [] [⟨some 2, .mov (.c (.bool false)), none⟩])
  .ret) .skip))
  (.seq (.seq (.region true [(2, 0)] [⟨none, .load true 4 (.v 6), none⟩, ⟨none, .load true 4 (.v 1), none⟩, ⟨none, .call false f_laws_toFlow [(.r 1)], none⟩, ⟨none, .call false f_laws_eqFlow [(.r 0), (.r 2)], none⟩, ⟨some 16, .not (.r 3), none⟩])
  (.cond (.v 16) (.seq (.region false [] [⟨some 2, .mov (.c (.bool false)), none⟩])
  .ret) .skip))
  (.seq (.region false [] [⟨some 9, .mov (.c (.int .i64 1)), none⟩])
  (.seq (.region false [] [⟨none, .load true 4 (.v 6), none⟩, ⟨none, .mov (.v 9), none⟩, ⟨none, .callm f_laws_markFlow [(.r 0), (.r 1)], none⟩, ⟨some 9, .mov (.r 2), none⟩])
  (.seq (.seq (.region false [] [⟨none, .mov (.v 9), none⟩, ⟨none, .bin false .lss (.r 0) (.c (.int .i64 0)), none⟩, ⟨none, .mov (.r 1), none⟩, ⟨none, .load true 4 (.v 7), some (2, false)⟩, ⟨none, .load true 4 (.v 4), some (2, false)⟩, ⟨none, .call false f_laws_eqFlow [(.r 3), (.r 4)], some (2, false)⟩, ⟨none, .not (.r 5), some (2, false)⟩, ⟨none, .pick (.r 2) (.c (.bool true)) (.r 6), none⟩, ⟨none, .mov (.r 7), none⟩, ⟨none, .mov (.v 8), some (8, false)⟩, ⟨none, .mov (.v 5), some (8, false)⟩, ⟨none, .bin true .neq (.r 9) (.r 10), some (8, false)⟩, ⟨some 17, .pick (.r 8) (.c (.bool true)) (.r 11), none⟩])
  (.cond (.v 17) (.seq (.region false [] [⟨some 2, .mov (.c (.bool false)), none⟩])
  .ret) .skip))
  (.seq (.region false [] [⟨some 10, .mov (.c (.int .i64 1)), none⟩])
  (.seq (.region false [] [⟨none, .load true 4 (.v 7), none⟩, ⟨none, .mov (.v 10), none⟩, ⟨none, .callm f_laws_markFlow [(.r 0), (.r 1)], none⟩, ⟨some 10, .mov (.r 2), none⟩])
  (.seq (.region false [] [⟨some 11, .mov (.c (.int .i64 1)), none⟩])
  (.seq (.region false [] [⟨none, .load true 4 (.v 7), none⟩, ⟨none, .mov (.v 11), none⟩, ⟨none, .call false f_laws_heldFlow [(.r 0), (.r 1)], none⟩, ⟨some 11, .mov (.r 2), none⟩])
  (.seq (.seq (.region false [] [⟨none, .mov (.v 11), none⟩, ⟨some 18, .bin false .lss (.r 0) (.c (.int .i64 0)), none⟩])
  (.cond (.v 18) (.seq (.region false [] [⟨some 2, .mov (.c (.bool false)), none⟩])
  .ret) .skip))
  (.seq (.seq (.region false [] [⟨none, .mov (.v 11), none⟩, ⟨none, .mov (.v 10), none⟩, ⟨some 19, .bin false .neq (.r 0) (.r 1), none⟩])
  (.cond (.v 19) (.seq (.region false [] [⟨some 2, .mov (.c (.bool false)), none⟩])
  .ret) .skip))
  (.seq (.region false [] [⟨none, .load true 4 (.v 1), none⟩, ⟨none, .call false f_laws_toFlow [(.r 0)], none⟩, ⟨none, .call false f_impl_FusePlaces [(.r 1)], none⟩, ⟨none, .mov (.r 2), none⟩, ⟨none, .extract (.r 3) 0, none⟩, ⟨none, .extract (.r 3) 1, none⟩, ⟨some 12, .alloc t_impl_Flow [(.int .i64 0), (.nil false 3), (.int .i64 0), (.int .i64 0)], none⟩, ⟨none, .store 4 (.v 12) (.r 4), none⟩, ⟨some 13, .mov (.r 5), none⟩])
  (.seq (.seq (.region false [] [⟨none, .load true 4 (.v 12), none⟩, ⟨none, .load true 4 (.v 4), none⟩, ⟨none, .call false f_laws_eqFlow [(.r 0), (.r 1)], none⟩, ⟨none, .not (.r 2), none⟩, ⟨none, .mov (.r 3), none⟩, ⟨none, .mov (.v 13), some (4, false)⟩, ⟨none, .mov (.v 5), some (4, false)⟩, ⟨none, .bin true .neq (.r 5) (.r 6), some (4, false)⟩, ⟨some 20, .pick (.r 4) (.c (.bool true)) (.r 7), none⟩])
  (.cond (.v 20) (.seq (.region false [] [⟨some 2, .mov (.c (.bool false)), none⟩])
  .ret) .skip))
  (.seq (.region false [] [⟨some 11, .mov (.c (.int .i64 1)), none⟩])
  (.seq (.region false [] [⟨none, .load true 4 (.v 7), none⟩, ⟨none, .mov (.v 11), none⟩, ⟨none, .call false f_laws_heldFlow [(.r 0), (.r 1)], none⟩, ⟨some 11, .mov (.r 2), none⟩])
  (.seq (.seq (.region false [] [⟨none, .mov (.v 11), none⟩, ⟨some 21, .bin false .lss (.r 0) (.c (.int .i64 0)), none⟩])
  (.cond (.v 21) (.seq (.region false [] [⟨some 2, .mov (.c (.bool false)), none⟩])
  .ret) .skip))
  (.seq (.seq (.region false [] [⟨none, .mov (.v 11), none⟩, ⟨none, .mov (.v 10), none⟩, ⟨some 22, .bin false .neq (.r 0) (.r 1), none⟩])
  (.cond (.v 22) (.seq (.region false [] [⟨some 2, .mov (.c (.bool false)), none⟩])
  .ret) .skip))
  (.seq (.region false [] [⟨some 2, .mov (.c (.bool true)), none⟩])
  .ret))))))))))))))))))))))))),
  [.v 2]⟩
def tbl : List (FuncId × IFun) := [(f_laws_szIntS, ir_laws_szIntS), (f_laws_szTrans, ir_laws_szTrans), (f_laws_szTransS, ir_laws_szTransS), (f_laws_szNet, ir_laws_szNet), (f_laws_szFlow, ir_laws_szFlow), (f_laws_toIntS, ir_laws_toIntS), (f_laws_toTrans, ir_laws_toTrans), (f_laws_toTransS, ir_laws_toTransS), (f_laws_toNet, ir_laws_toNet), (f_laws_toFlow, ir_laws_toFlow), (f_spec_l1In, ir_spec_l1In), (f_spec_l1Places, ir_spec_l1Places), (f_spec_l1Rising, ir_spec_l1Rising), (f_spec_GoodNet, ir_spec_GoodNet), (f_spec_l3Forward, ir_spec_l3Forward), (f_spec_l3Back, ir_spec_l3Back), (f_spec_l3Both, ir_spec_l3Both), (f_spec_OnWay, ir_spec_OnWay), (f_spec_l1Has, ir_spec_l1Has), (f_spec_GoodFlow, ir_spec_GoodFlow), (f_spec_l2Resets, ir_spec_l2Resets), (f_spec_l10Asked, ir_spec_l10Asked), (f_spec_l2Takers, ir_spec_l2Takers), (f_spec_l10Apart, ir_spec_l10Apart), (f_spec_l1Own, ir_spec_l1Own), (f_spec_l3Own, ir_spec_l3Own), (f_spec_l8Without, ir_spec_l8Without), (f_spec_l1Put, ir_spec_l1Put), (f_spec_l10Leave, ir_spec_l10Leave), (f_spec_l10FusePlaces, ir_spec_l10FusePlaces), (f_spec_FusePlaces, ir_spec_FusePlaces), (f_impl_within, ir_impl_within), (f_impl_increasing, ir_impl_increasing), (f_impl_allWithin, ir_impl_allWithin), (f_impl_arePlaces, ir_impl_arePlaces), (f_impl_GoodNet_1, ir_impl_GoodNet_1), (f_slices_IndexFunc_sl_impl_Trans_impl_Trans, ir_slices_IndexFunc_sl_impl_Trans_impl_Trans), (f_slices_ContainsFunc_sl_impl_Trans_impl_Trans, ir_slices_ContainsFunc_sl_impl_Trans_impl_Trans), (f_impl_GoodNet, ir_impl_GoodNet), (f_slices_Index_sl_int_int, ir_slices_Index_sl_int_int), (f_slices_Contains_sl_int_int, ir_slices_Contains_sl_int_int), (f_impl_reachedFrom_1, ir_impl_reachedFrom_1), (f_slices_IndexFunc_sl_int_int, ir_slices_IndexFunc_sl_int_int), (f_slices_ContainsFunc_sl_int_int, ir_slices_ContainsFunc_sl_int_int), (f_impl_reachedFrom, ir_impl_reachedFrom), (f_impl_bothOf, ir_impl_bothOf), (f_impl_onWay, ir_impl_onWay), (f_impl_GoodFlow, ir_impl_GoodFlow), (f_impl_hasResets_1, ir_impl_hasResets_1), (f_impl_hasResets, ir_impl_hasResets), (f_impl_isReducible, ir_impl_isReducible), (f_impl_fusePlaces_1, ir_impl_fusePlaces_1), (f_impl_withTrans, ir_impl_withTrans), (f_impl_cloneNet, ir_impl_cloneNet), (f_slices_Delete_sl_impl_Trans_impl_Trans, ir_slices_Delete_sl_impl_Trans_impl_Trans), (f_impl_withoutTrans, ir_impl_withoutTrans), (f_impl_maskOf, ir_impl_maskOf), (f_impl_setOf, ir_impl_setOf), (f_impl_withoutPlace_1, ir_impl_withoutPlace_1), (f_impl_withoutPlace_2, ir_impl_withoutPlace_2), (f_impl_withoutPlace, ir_impl_withoutPlace), (f_impl_fusePlaces, ir_impl_fusePlaces), (f_impl_FusePlaces, ir_impl_FusePlaces), (f_laws_eqIntS, ir_laws_eqIntS), (f_laws_eqTrans, ir_laws_eqTrans), (f_laws_eqTransS, ir_laws_eqTransS), (f_laws_eqNet, ir_laws_eqNet), (f_laws_eqFlow, ir_laws_eqFlow), (f_laws_markIntS, ir_laws_markIntS), (f_laws_markTransS, ir_laws_markTransS), (f_laws_markNet, ir_laws_markNet), (f_laws_markFlow, ir_laws_markFlow), (f_laws_heldIntS, ir_laws_heldIntS), (f_laws_heldTransS, ir_laws_heldTransS), (f_laws_heldNet, ir_laws_heldNet), (f_laws_heldFlow, ir_laws_heldFlow), (f_laws_FnExactFusePlaces, ir_laws_FnExactFusePlaces)]
def F (f : FuncId) : Option IFun := (tbl.find? fun p => p.1 == f).map (·.2)
def exts : List (FuncId × (List PV → Option PV)) := [(f_slices_Clone_sl_int_int, ext_slices_Clone_sl_int_int)]
def ext (f : FuncId) : Option (List PV → Option PV) := (exts.find? fun p => p.1 == f).map (·.2)
noncomputable def C : Orc := lim F ext
theorem C_laws_szIntS {args : List PV} {M : List Blk} {r : PV × List Blk} (h : W C M.length ir_laws_szIntS.body ⟨start ir_laws_szIntS args, M⟩ (Lv M.length ir_laws_szIntS.results r)) : C f_laws_szIntS args M = some r := call_of rfl rfl h
theorem C_laws_szTrans {args : List PV} {M : List Blk} {r : PV × List Blk} (h : W C M.length ir_laws_szTrans.body ⟨start ir_laws_szTrans args, M⟩ (Lv M.length ir_laws_szTrans.results r)) : C f_laws_szTrans args M = some r := call_of rfl rfl h
theorem C_laws_szTransS {args : List PV} {M : List Blk} {r : PV × List Blk} (h : W C M.length ir_laws_szTransS.body ⟨start ir_laws_szTransS args, M⟩ (Lv M.length ir_laws_szTransS.results r)) : C f_laws_szTransS args M = some r := call_of rfl rfl h
theorem C_laws_szNet {args : List PV} {M : List Blk} {r : PV × List Blk} (h : W C M.length ir_laws_szNet.body ⟨start ir_laws_szNet args, M⟩ (Lv M.length ir_laws_szNet.results r)) : C f_laws_szNet args M = some r := call_of rfl rfl h
theorem C_laws_szFlow {args : List PV} {M : List Blk} {r : PV × List Blk} (h : W C M.length ir_laws_szFlow.body ⟨start ir_laws_szFlow args, M⟩ (Lv M.length ir_laws_szFlow.results r)) : C f_laws_szFlow args M = some r := call_of rfl rfl h
theorem C_laws_toIntS {args : List PV} {M : List Blk} {r : PV × List Blk} (h : W C M.length ir_laws_toIntS.body ⟨start ir_laws_toIntS args, M⟩ (Lv M.length ir_laws_toIntS.results r)) : C f_laws_toIntS args M = some r := call_of rfl rfl h
theorem C_laws_toTrans {args : List PV} {M : List Blk} {r : PV × List Blk} (h : W C M.length ir_laws_toTrans.body ⟨start ir_laws_toTrans args, M⟩ (Lv M.length ir_laws_toTrans.results r)) : C f_laws_toTrans args M = some r := call_of rfl rfl h
theorem C_laws_toTransS {args : List PV} {M : List Blk} {r : PV × List Blk} (h : W C M.length ir_laws_toTransS.body ⟨start ir_laws_toTransS args, M⟩ (Lv M.length ir_laws_toTransS.results r)) : C f_laws_toTransS args M = some r := call_of rfl rfl h
theorem C_laws_toNet {args : List PV} {M : List Blk} {r : PV × List Blk} (h : W C M.length ir_laws_toNet.body ⟨start ir_laws_toNet args, M⟩ (Lv M.length ir_laws_toNet.results r)) : C f_laws_toNet args M = some r := call_of rfl rfl h
theorem C_laws_toFlow {args : List PV} {M : List Blk} {r : PV × List Blk} (h : W C M.length ir_laws_toFlow.body ⟨start ir_laws_toFlow args, M⟩ (Lv M.length ir_laws_toFlow.results r)) : C f_laws_toFlow args M = some r := call_of rfl rfl h
theorem C_spec_l1In {args : List PV} {M : List Blk} {r : PV × List Blk} (h : W C M.length ir_spec_l1In.body ⟨start ir_spec_l1In args, M⟩ (Lv M.length ir_spec_l1In.results r)) : C f_spec_l1In args M = some r := call_of rfl rfl h
theorem C_spec_l1Places {args : List PV} {M : List Blk} {r : PV × List Blk} (h : W C M.length ir_spec_l1Places.body ⟨start ir_spec_l1Places args, M⟩ (Lv M.length ir_spec_l1Places.results r)) : C f_spec_l1Places args M = some r := call_of rfl rfl h
theorem C_spec_l1Rising {args : List PV} {M : List Blk} {r : PV × List Blk} (h : W C M.length ir_spec_l1Rising.body ⟨start ir_spec_l1Rising args, M⟩ (Lv M.length ir_spec_l1Rising.results r)) : C f_spec_l1Rising args M = some r := call_of rfl rfl h
theorem C_spec_GoodNet {args : List PV} {M : List Blk} {r : PV × List Blk} (h : W C M.length ir_spec_GoodNet.body ⟨start ir_spec_GoodNet args, M⟩ (Lv M.length ir_spec_GoodNet.results r)) : C f_spec_GoodNet args M = some r := call_of rfl rfl h
theorem C_spec_l3Forward {args : List PV} {M : List Blk} {r : PV × List Blk} (h : W C M.length ir_spec_l3Forward.body ⟨start ir_spec_l3Forward args, M⟩ (Lv M.length ir_spec_l3Forward.results r)) : C f_spec_l3Forward args M = some r := call_of rfl rfl h
theorem C_spec_l3Back {args : List PV} {M : List Blk} {r : PV × List Blk} (h : W C M.length ir_spec_l3Back.body ⟨start ir_spec_l3Back args, M⟩ (Lv M.length ir_spec_l3Back.results r)) : C f_spec_l3Back args M = some r := call_of rfl rfl h
theorem C_spec_l3Both {args : List PV} {M : List Blk} {r : PV × List Blk} (h : W C M.length ir_spec_l3Both.body ⟨start ir_spec_l3Both args, M⟩ (Lv M.length ir_spec_l3Both.results r)) : C f_spec_l3Both args M = some r := call_of rfl rfl h
theorem C_spec_OnWay {args : List PV} {M : List Blk} {r : PV × List Blk} (h : W C M.length ir_spec_OnWay.body ⟨start ir_spec_OnWay args, M⟩ (Lv M.length ir_spec_OnWay.results r)) : C f_spec_OnWay args M = some r := call_of rfl rfl h
theorem C_spec_l1Has {args : List PV} {M : List Blk} {r : PV × List Blk} (h : W C M.length ir_spec_l1Has.body ⟨start ir_spec_l1Has args, M⟩ (Lv M.length ir_spec_l1Has.results r)) : C f_spec_l1Has args M = some r := call_of rfl rfl h
theorem C_spec_GoodFlow {args : List PV} {M : List Blk} {r : PV × List Blk} (h : W C M.length ir_spec_GoodFlow.body ⟨start ir_spec_GoodFlow args, M⟩ (Lv M.length ir_spec_GoodFlow.results r)) : C f_spec_GoodFlow args M = some r := call_of rfl rfl h
theorem C_spec_l2Resets {args : List PV} {M : List Blk} {r : PV × List Blk} (h : W C M.length ir_spec_l2Resets.body ⟨start ir_spec_l2Resets args, M⟩ (Lv M.length ir_spec_l2Resets.results r)) : C f_spec_l2Resets args M = some r := call_of rfl rfl h
theorem C_spec_l10Asked {args : List PV} {M : List Blk} {r : PV × List Blk} (h : W C M.length ir_spec_l10Asked.body ⟨start ir_spec_l10Asked args, M⟩ (Lv M.length ir_spec_l10Asked.results r)) : C f_spec_l10Asked args M = some r := call_of rfl rfl h
theorem C_spec_l2Takers {args : List PV} {M : List Blk} {r : PV × List Blk} (h : W C M.length ir_spec_l2Takers.body ⟨start ir_spec_l2Takers args, M⟩ (Lv M.length ir_spec_l2Takers.results r)) : C f_spec_l2Takers args M = some r := call_of rfl rfl h
theorem C_spec_l10Apart {args : List PV} {M : List Blk} {r : PV × List Blk} (h : W C M.length ir_spec_l10Apart.body ⟨start ir_spec_l10Apart args, M⟩ (Lv M.length ir_spec_l10Apart.results r)) : C f_spec_l10Apart args M = some r := call_of rfl rfl h
theorem C_spec_l1Own {args : List PV} {M : List Blk} {r : PV × List Blk} (h : W C M.length ir_spec_l1Own.body ⟨start ir_spec_l1Own args, M⟩ (Lv M.length ir_spec_l1Own.results r)) : C f_spec_l1Own args M = some r := call_of rfl rfl h
theorem C_spec_l3Own {args : List PV} {M : List Blk} {r : PV × List Blk} (h : W C M.length ir_spec_l3Own.body ⟨start ir_spec_l3Own args, M⟩ (Lv M.length ir_spec_l3Own.results r)) : C f_spec_l3Own args M = some r := call_of rfl rfl h
theorem C_spec_l8Without {args : List PV} {M : List Blk} {r : PV × List Blk} (h : W C M.length ir_spec_l8Without.body ⟨start ir_spec_l8Without args, M⟩ (Lv M.length ir_spec_l8Without.results r)) : C f_spec_l8Without args M = some r := call_of rfl rfl h
theorem E_spec_l1Put {args : List PV} {M : List Blk} {P : PV × List Blk → Prop} (h : W C M.length ir_spec_l1Put.body ⟨start ir_spec_l1Put args, M⟩ (Le' M.length ir_spec_l1Put.results P)) : Lw (C f_spec_l1Put args M) P := call_ex rfl rfl h
theorem C_spec_l1Put {args : List PV} {M : List Blk} {r : PV × List Blk} (h : W C M.length ir_spec_l1Put.body ⟨start ir_spec_l1Put args, M⟩ (Lv M.length ir_spec_l1Put.results r)) : C f_spec_l1Put args M = some r := call_of rfl rfl h
theorem C_spec_l10Leave {args : List PV} {M : List Blk} {r : PV × List Blk} (h : W C M.length ir_spec_l10Leave.body ⟨start ir_spec_l10Leave args, M⟩ (Lv M.length ir_spec_l10Leave.results r)) : C f_spec_l10Leave args M = some r := call_of rfl rfl h
theorem C_spec_l10FusePlaces {args : List PV} {M : List Blk} {r : PV × List Blk} (h : W C M.length ir_spec_l10FusePlaces.body ⟨start ir_spec_l10FusePlaces args, M⟩ (Lv M.length ir_spec_l10FusePlaces.results r)) : C f_spec_l10FusePlaces args M = some r := call_of rfl rfl h
theorem C_spec_FusePlaces {args : List PV} {M : List Blk} {r : PV × List Blk} (h : W C M.length ir_spec_FusePlaces.body ⟨start ir_spec_FusePlaces args, M⟩ (Lv M.length ir_spec_FusePlaces.results r)) : C f_spec_FusePlaces args M = some r := call_of rfl rfl h
theorem C_impl_within {args : List PV} {M : List Blk} {r : PV × List Blk} (h : W C M.length ir_impl_within.body ⟨start ir_impl_within args, M⟩ (Lv M.length ir_impl_within.results r)) : C f_impl_within args M = some r := call_of rfl rfl h
theorem C_impl_increasing {args : List PV} {M : List Blk} {r : PV × List Blk} (h : W C M.length ir_impl_increasing.body ⟨start ir_impl_increasing args, M⟩ (Lv M.length ir_impl_increasing.results r)) : C f_impl_increasing args M = some r := call_of rfl rfl h
theorem C_impl_allWithin {args : List PV} {M : List Blk} {r : PV × List Blk} (h : W C M.length ir_impl_allWithin.body ⟨start ir_impl_allWithin args, M⟩ (Lv M.length ir_impl_allWithin.results r)) : C f_impl_allWithin args M = some r := call_of rfl rfl h
theorem C_impl_arePlaces {args : List PV} {M : List Blk} {r : PV × List Blk} (h : W C M.length ir_impl_arePlaces.body ⟨start ir_impl_arePlaces args, M⟩ (Lv M.length ir_impl_arePlaces.results r)) : C f_impl_arePlaces args M = some r := call_of rfl rfl h
theorem C_impl_GoodNet_1 {args : List PV} {M : List Blk} {r : PV × List Blk} (h : W C M.length ir_impl_GoodNet_1.body ⟨start ir_impl_GoodNet_1 args, M⟩ (Lv M.length ir_impl_GoodNet_1.results r)) : C f_impl_GoodNet_1 args M = some r := call_of rfl rfl h
theorem C_slices_IndexFunc_sl_impl_Trans_impl_Trans {args : List PV} {M : List Blk} {r : PV × List Blk} (h : W C M.length ir_slices_IndexFunc_sl_impl_Trans_impl_Trans.body ⟨start ir_slices_IndexFunc_sl_impl_Trans_impl_Trans args, M⟩ (Lv M.length ir_slices_IndexFunc_sl_impl_Trans_impl_Trans.results r)) : C f_slices_IndexFunc_sl_impl_Trans_impl_Trans args M = some r := call_of rfl rfl h
theorem C_slices_ContainsFunc_sl_impl_Trans_impl_Trans {args : List PV} {M : List Blk} {r : PV × List Blk} (h : W C M.length ir_slices_ContainsFunc_sl_impl_Trans_impl_Trans.body ⟨start ir_slices_ContainsFunc_sl_impl_Trans_impl_Trans args, M⟩ (Lv M.length ir_slices_ContainsFunc_sl_impl_Trans_impl_Trans.results r)) : C f_slices_ContainsFunc_sl_impl_Trans_impl_Trans args M = some r := call_of rfl rfl h
theorem C_impl_GoodNet {args : List PV} {M : List Blk} {r : PV × List Blk} (h : W C M.length ir_impl_GoodNet.body ⟨start ir_impl_GoodNet args, M⟩ (Lv M.length ir_impl_GoodNet.results r)) : C f_impl_GoodNet args M = some r := call_of rfl rfl h
theorem C_slices_Index_sl_int_int {args : List PV} {M : List Blk} {r : PV × List Blk} (h : W C M.length ir_slices_Index_sl_int_int.body ⟨start ir_slices_Index_sl_int_int args, M⟩ (Lv M.length ir_slices_Index_sl_int_int.results r)) : C f_slices_Index_sl_int_int args M = some r := call_of rfl rfl h
theorem C_slices_Contains_sl_int_int {args : List PV} {M : List Blk} {r : PV × List Blk} (h : W C M.length ir_slices_Contains_sl_int_int.body ⟨start ir_slices_Contains_sl_int_int args, M⟩ (Lv M.length ir_slices_Contains_sl_int_int.results r)) : C f_slices_Contains_sl_int_int args M = some r := call_of rfl rfl h
theorem C_impl_reachedFrom_1 {args : List PV} {M : List Blk} {r : PV × List Blk} (h : W C M.length ir_impl_reachedFrom_1.body ⟨start ir_impl_reachedFrom_1 args, M⟩ (Lv M.length ir_impl_reachedFrom_1.results r)) : C f_impl_reachedFrom_1 args M = some r := call_of rfl rfl h
theorem C_slices_IndexFunc_sl_int_int {args : List PV} {M : List Blk} {r : PV × List Blk} (h : W C M.length ir_slices_IndexFunc_sl_int_int.body ⟨start ir_slices_IndexFunc_sl_int_int args, M⟩ (Lv M.length ir_slices_IndexFunc_sl_int_int.results r)) : C f_slices_IndexFunc_sl_int_int args M = some r := call_of rfl rfl h
theorem C_slices_ContainsFunc_sl_int_int {args : List PV} {M : List Blk} {r : PV × List Blk} (h : W C M.length ir_slices_ContainsFunc_sl_int_int.body ⟨start ir_slices_ContainsFunc_sl_int_int args, M⟩ (Lv M.length ir_slices_ContainsFunc_sl_int_int.results r)) : C f_slices_ContainsFunc_sl_int_int args M = some r := call_of rfl rfl h
theorem C_impl_reachedFrom {args : List PV} {M : List Blk} {r : PV × List Blk} (h : W C M.length ir_impl_reachedFrom.body ⟨start ir_impl_reachedFrom args, M⟩ (Lv M.length ir_impl_reachedFrom.results r)) : C f_impl_reachedFrom args M = some r := call_of rfl rfl h
theorem C_impl_bothOf {args : List PV} {M : List Blk} {r : PV × List Blk} (h : W C M.length ir_impl_bothOf.body ⟨start ir_impl_bothOf args, M⟩ (Lv M.length ir_impl_bothOf.results r)) : C f_impl_bothOf args M = some r := call_of rfl rfl h
theorem C_impl_onWay {args : List PV} {M : List Blk} {r : PV × List Blk} (h : W C M.length ir_impl_onWay.body ⟨start ir_impl_onWay args, M⟩ (Lv M.length ir_impl_onWay.results r)) : C f_impl_onWay args M = some r := call_of rfl rfl h
theorem C_impl_GoodFlow {args : List PV} {M : List Blk} {r : PV × List Blk} (h : W C M.length ir_impl_GoodFlow.body ⟨start ir_impl_GoodFlow args, M⟩ (Lv M.length ir_impl_GoodFlow.results r)) : C f_impl_GoodFlow args M = some r := call_of rfl rfl h
theorem C_impl_hasResets_1 {args : List PV} {M : List Blk} {r : PV × List Blk} (h : W C M.length ir_impl_hasResets_1.body ⟨start ir_impl_hasResets_1 args, M⟩ (Lv M.length ir_impl_hasResets_1.results r)) : C f_impl_hasResets_1 args M = some r := call_of rfl rfl h
theorem C_impl_hasResets {args : List PV} {M : List Blk} {r : PV × List Blk} (h : W C M.length ir_impl_hasResets.body ⟨start ir_impl_hasResets args, M⟩ (Lv M.length ir_impl_hasResets.results r)) : C f_impl_hasResets args M = some r := call_of rfl rfl h
theorem C_impl_isReducible {args : List PV} {M : List Blk} {r : PV × List Blk} (h : W C M.length ir_impl_isReducible.body ⟨start ir_impl_isReducible args, M⟩ (Lv M.length ir_impl_isReducible.results r)) : C f_impl_isReducible args M = some r := call_of rfl rfl h
theorem C_impl_fusePlaces_1 {args : List PV} {M : List Blk} {r : PV × List Blk} (h : W C M.length ir_impl_fusePlaces_1.body ⟨start ir_impl_fusePlaces_1 args, M⟩ (Lv M.length ir_impl_fusePlaces_1.results r)) : C f_impl_fusePlaces_1 args M = some r := call_of rfl rfl h
theorem C_impl_withTrans {args : List PV} {M : List Blk} {r : PV × List Blk} (h : W C M.length ir_impl_withTrans.body ⟨start ir_impl_withTrans args, M⟩ (Lv M.length ir_impl_withTrans.results r)) : C f_impl_withTrans args M = some r := call_of rfl rfl h
theorem C_impl_cloneNet {args : List PV} {M : List Blk} {r : PV × List Blk} (h : W C M.length ir_impl_cloneNet.body ⟨start ir_impl_cloneNet args, M⟩ (Lv M.length ir_impl_cloneNet.results r)) : C f_impl_cloneNet args M = some r := call_of rfl rfl h
theorem C_slices_Delete_sl_impl_Trans_impl_Trans {args : List PV} {M : List Blk} {r : PV × List Blk} (h : W C M.length ir_slices_Delete_sl_impl_Trans_impl_Trans.body ⟨start ir_slices_Delete_sl_impl_Trans_impl_Trans args, M⟩ (Lv M.length ir_slices_Delete_sl_impl_Trans_impl_Trans.results r)) : C f_slices_Delete_sl_impl_Trans_impl_Trans args M = some r := call_of rfl rfl h
theorem C_impl_withoutTrans {args : List PV} {M : List Blk} {r : PV × List Blk} (h : W C M.length ir_impl_withoutTrans.body ⟨start ir_impl_withoutTrans args, M⟩ (Lv M.length ir_impl_withoutTrans.results r)) : C f_impl_withoutTrans args M = some r := call_of rfl rfl h
theorem C_impl_maskOf {args : List PV} {M : List Blk} {r : PV × List Blk} (h : W C M.length ir_impl_maskOf.body ⟨start ir_impl_maskOf args, M⟩ (Lv M.length ir_impl_maskOf.results r)) : C f_impl_maskOf args M = some r := call_of rfl rfl h
theorem C_impl_setOf {args : List PV} {M : List Blk} {r : PV × List Blk} (h : W C M.length ir_impl_setOf.body ⟨start ir_impl_setOf args, M⟩ (Lv M.length ir_impl_setOf.results r)) : C f_impl_setOf args M = some r := call_of rfl rfl h
theorem C_impl_withoutPlace_1 {args : List PV} {M : List Blk} {r : PV × List Blk} (h : W C M.length ir_impl_withoutPlace_1.body ⟨start ir_impl_withoutPlace_1 args, M⟩ (Lv M.length ir_impl_withoutPlace_1.results r)) : C f_impl_withoutPlace_1 args M = some r := call_of rfl rfl h
theorem C_impl_withoutPlace_2 {args : List PV} {M : List Blk} {r : PV × List Blk} (h : W C M.length ir_impl_withoutPlace_2.body ⟨start ir_impl_withoutPlace_2 args, M⟩ (Lv M.length ir_impl_withoutPlace_2.results r)) : C f_impl_withoutPlace_2 args M = some r := call_of rfl rfl h
theorem C_impl_withoutPlace {args : List PV} {M : List Blk} {r : PV × List Blk} (h : W C M.length ir_impl_withoutPlace.body ⟨start ir_impl_withoutPlace args, M⟩ (Lv M.length ir_impl_withoutPlace.results r)) : C f_impl_withoutPlace args M = some r := call_of rfl rfl h
theorem C_impl_fusePlaces {args : List PV} {M : List Blk} {r : PV × List Blk} (h : W C M.length ir_impl_fusePlaces.body ⟨start ir_impl_fusePlaces args, M⟩ (Lv M.length ir_impl_fusePlaces.results r)) : C f_impl_fusePlaces args M = some r := call_of rfl rfl h
theorem C_impl_FusePlaces {args : List PV} {M : List Blk} {r : PV × List Blk} (h : W C M.length ir_impl_FusePlaces.body ⟨start ir_impl_FusePlaces args, M⟩ (Lv M.length ir_impl_FusePlaces.results r)) : C f_impl_FusePlaces args M = some r := call_of rfl rfl h
theorem C_laws_eqIntS {args : List PV} {M : List Blk} {r : PV × List Blk} (h : W C M.length ir_laws_eqIntS.body ⟨start ir_laws_eqIntS args, M⟩ (Lv M.length ir_laws_eqIntS.results r)) : C f_laws_eqIntS args M = some r := call_of rfl rfl h
theorem C_laws_eqTrans {args : List PV} {M : List Blk} {r : PV × List Blk} (h : W C M.length ir_laws_eqTrans.body ⟨start ir_laws_eqTrans args, M⟩ (Lv M.length ir_laws_eqTrans.results r)) : C f_laws_eqTrans args M = some r := call_of rfl rfl h
theorem C_laws_eqTransS {args : List PV} {M : List Blk} {r : PV × List Blk} (h : W C M.length ir_laws_eqTransS.body ⟨start ir_laws_eqTransS args, M⟩ (Lv M.length ir_laws_eqTransS.results r)) : C f_laws_eqTransS args M = some r := call_of rfl rfl h
theorem C_laws_eqNet {args : List PV} {M : List Blk} {r : PV × List Blk} (h : W C M.length ir_laws_eqNet.body ⟨start ir_laws_eqNet args, M⟩ (Lv M.length ir_laws_eqNet.results r)) : C f_laws_eqNet args M = some r := call_of rfl rfl h
theorem C_laws_eqFlow {args : List PV} {M : List Blk} {r : PV × List Blk} (h : W C M.length ir_laws_eqFlow.body ⟨start ir_laws_eqFlow args, M⟩ (Lv M.length ir_laws_eqFlow.results r)) : C f_laws_eqFlow args M = some r := call_of rfl rfl h
theorem C_laws_markIntS {args : List PV} {M : List Blk} {r : PV × List Blk} (h : W C M.length ir_laws_markIntS.body ⟨start ir_laws_markIntS args, M⟩ (Lv M.length ir_laws_markIntS.results r)) : C f_laws_markIntS args M = some r := call_of rfl rfl h
theorem C_laws_markTransS {args : List PV} {M : List Blk} {r : PV × List Blk} (h : W C M.length ir_laws_markTransS.body ⟨start ir_laws_markTransS args, M⟩ (Lv M.length ir_laws_markTransS.results r)) : C f_laws_markTransS args M = some r := call_of rfl rfl h
theorem C_laws_markNet {args : List PV} {M : List Blk} {r : PV × List Blk} (h : W C M.length ir_laws_markNet.body ⟨start ir_laws_markNet args, M⟩ (Lv M.length ir_laws_markNet.results r)) : C f_laws_markNet args M = some r := call_of rfl rfl h
theorem C_laws_markFlow {args : List PV} {M : List Blk} {r : PV × List Blk} (h : W C M.length ir_laws_markFlow.body ⟨start ir_laws_markFlow args, M⟩ (Lv M.length ir_laws_markFlow.results r)) : C f_laws_markFlow args M = some r := call_of rfl rfl h
theorem C_laws_heldIntS {args : List PV} {M : List Blk} {r : PV × List Blk} (h : W C M.length ir_laws_heldIntS.body ⟨start ir_laws_heldIntS args, M⟩ (Lv M.length ir_laws_heldIntS.results r)) : C f_laws_heldIntS args M = some r := call_of rfl rfl h
theorem C_laws_heldTransS {args : List PV} {M : List Blk} {r : PV × List Blk} (h : W C M.length ir_laws_heldTransS.body ⟨start ir_laws_heldTransS args, M⟩ (Lv M.length ir_laws_heldTransS.results r)) : C f_laws_heldTransS args M = some r := call_of rfl rfl h
theorem C_laws_heldNet {args : List PV} {M : List Blk} {r : PV × List Blk} (h : W C M.length ir_laws_heldNet.body ⟨start ir_laws_heldNet args, M⟩ (Lv M.length ir_laws_heldNet.results r)) : C f_laws_heldNet args M = some r := call_of rfl rfl h
theorem C_laws_heldFlow {args : List PV} {M : List Blk} {r : PV × List Blk} (h : W C M.length ir_laws_heldFlow.body ⟨start ir_laws_heldFlow args, M⟩ (Lv M.length ir_laws_heldFlow.results r)) : C f_laws_heldFlow args M = some r := call_of rfl rfl h
theorem C_laws_FnExactFusePlaces {args : List PV} {M : List Blk} {r : PV × List Blk} (h : W C M.length ir_laws_FnExactFusePlaces.body ⟨start ir_laws_FnExactFusePlaces args, M⟩ (Lv M.length ir_laws_FnExactFusePlaces.results r)) : C f_laws_FnExactFusePlaces args M = some r := call_of rfl rfl h
theorem slices_Clone_sl_int_int_ok {es : List PV} (h : es.length ≤ 68719476736) : C f_slices_Clone_sl_int_int [.sl true 1 es] [] = some (.un t_int true 1 es, []) := lim_ext (e := ext_slices_Clone_sl_int_int) rfl (by simp [ext_slices_Clone_sl_int_int, extClone, h])
end Go.Proofs.Ytkkifebmicbbaaa.Pi
