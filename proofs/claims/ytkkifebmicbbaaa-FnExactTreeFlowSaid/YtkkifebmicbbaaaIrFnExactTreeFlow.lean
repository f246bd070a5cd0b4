/- The forms of the functions that the law reaches, and their oracle. Definitions alone; no condition. -/
import Derived.Test.YtkkifebmicbbaaaPiExt
namespace Go.Proofs.Ytkkifebmicbbaaa.Pi
open Go
set_option linter.all false
abbrev t_int : TypeId := 3
abbrev t_bool : TypeId := 4
abbrev t_impl_Net : TypeId := 30
abbrev t_impl_Flow : TypeId := 32
abbrev t_impl_Branch : TypeId := 89
abbrev t_laws_Branch : TypeId := 91
abbrev t_spec_l11Build : TypeId := 96
abbrev t_impl_treeBuild : TypeId := 102
abbrev t_sl_bool : TypeId := 114
abbrev t_impl_Trans : TypeId := 151
abbrev t_impl_treeNode : TypeId := 166
abbrev f_laws_szBranchS : FuncId := 20
abbrev f_laws_toBranch : FuncId := 72
abbrev f_laws_toBranchS : FuncId := 22
abbrev f_spec_l1In : FuncId := 71
abbrev f_spec_l11Good : FuncId := 70
abbrev f_spec_l11Build_trans : FuncId := 151
abbrev f_spec_l11First : FuncId := 152
abbrev f_spec_l11Build_part : FuncId := 76
abbrev f_spec_l1Places : FuncId := 111
abbrev f_spec_l1Rising : FuncId := 226
abbrev f_spec_GoodNet : FuncId := 193
abbrev f_spec_l3Forward : FuncId := 204
abbrev f_spec_l3Back : FuncId := 205
abbrev f_spec_l3Both : FuncId := 206
abbrev f_spec_OnWay : FuncId := 153
abbrev f_spec_l1Has : FuncId := 147
abbrev f_spec_GoodFlow : FuncId := 77
abbrev f_spec_TreeFlow : FuncId := 27
abbrev f_impl_within : FuncId := 108
abbrev f_impl_isTree : FuncId := 73
abbrev f_impl_parsed : FuncId := 78
abbrev f_impl_treeBuild_trans : FuncId := 154
abbrev f_impl_treeBuild_place : FuncId := 155
abbrev f_impl_treeBuild_build : FuncId := 79
abbrev f_impl_increasing : FuncId := 237
abbrev f_impl_allWithin : FuncId := 163
abbrev f_impl_arePlaces : FuncId := 208
abbrev f_impl_GoodNet_1 : FuncId := 207
abbrev f_slices_IndexFunc_sl_impl_Trans_impl_Trans : FuncId := 203
abbrev f_slices_ContainsFunc_sl_impl_Trans_impl_Trans : FuncId := 148
abbrev f_impl_GoodNet : FuncId := 156
abbrev f_slices_Index_sl_int_int : FuncId := 195
abbrev f_slices_Contains_sl_int_int : FuncId := 125
abbrev f_impl_reachedFrom_1 : FuncId := 238
abbrev f_slices_IndexFunc_sl_int_int : FuncId := 240
abbrev f_slices_ContainsFunc_sl_int_int : FuncId := 222
abbrev f_impl_reachedFrom : FuncId := 209
abbrev f_impl_bothOf : FuncId := 210
abbrev f_impl_onWay : FuncId := 157
abbrev f_impl_GoodFlow : FuncId := 80
abbrev f_impl_TreeFlow : FuncId := 28
abbrev f_laws_eqIntS : FuncId := 29
abbrev f_laws_eqTrans : FuncId := 198
abbrev f_laws_eqTransS : FuncId := 127
abbrev f_laws_eqNet : FuncId := 59
abbrev f_laws_eqFlow : FuncId := 15
abbrev f_laws_eqBranch : FuncId := 75
abbrev f_laws_eqBranchS : FuncId := 24
abbrev f_laws_markBranchS : FuncId := 25
abbrev f_laws_markIntS : FuncId := 30
abbrev f_laws_markTransS : FuncId := 128
abbrev f_laws_markNet : FuncId := 60
abbrev f_laws_markFlow : FuncId := 16
abbrev f_laws_heldIntS : FuncId := 31
abbrev f_laws_heldTransS : FuncId := 145
abbrev f_laws_heldNet : FuncId := 67
abbrev f_laws_heldFlow : FuncId := 17
abbrev f_laws_FnExactTreeFlow : FuncId := 6
def ir_laws_szBranchS : IFun := ⟨[0, 1, 4, 10],
  (.seq (.region false [] [⟨some 2, .mov (.c (.int .i64 0)), none⟩])
  (.seq (.region false [] [⟨none, .mov (.v 1), none⟩, ⟨none, .mov (.v 0), none⟩, ⟨none, .len false (.r 1), none⟩, ⟨none, .bin false .sub (.r 0) (.r 2), none⟩, ⟨some 1, .mov (.r 3), none⟩])
  (.seq (.seq (.region false [] [⟨none, .mov (.v 1), none⟩, ⟨some 3, .bin false .lss (.r 0) (.c (.int .i64 0)), none⟩])
  (.cond (.v 3) (.seq (.region false [] [⟨some 2, .mov (.c (.int .i64 (-1))), none⟩])
  .ret) .skip))
  (.seq (.region false [] [⟨none, .mov (.v 1), none⟩, ⟨some 2, .mov (.r 0), none⟩])
  .ret)))),
  [.v 2]⟩
def ir_laws_toBranch : IFun := ⟨[0, 1, 2, 3],
  (.seq (.region false [] [⟨some 1, .box t_laws_Branch 2 (.v 0), none⟩, ⟨some 2, .alloc t_impl_Branch [(.int .i64 0), (.int .i64 0)], none⟩])
  (.seq (.region false [] [⟨some 3, .alloc t_impl_Branch [(.int .i64 0), (.int .i64 0)], none⟩])
  (.seq (.region false [] [⟨none, .faddr 0 (.v 1), none⟩, ⟨none, .load false 1 (.r 0), none⟩, ⟨none, .faddr 0 (.v 3), none⟩, ⟨none, .store 1 (.r 2) (.r 1), none⟩])
  (.seq (.region false [] [⟨none, .faddr 1 (.v 1), none⟩, ⟨none, .load false 1 (.r 0), none⟩, ⟨none, .faddr 1 (.v 3), none⟩, ⟨none, .store 1 (.r 2) (.r 1), none⟩])
  (.seq (.region false [] [⟨none, .load true 2 (.v 3), none⟩, ⟨none, .store 2 (.v 2) (.r 0), none⟩])
  .ret))))),
  [.cell true 2 2]⟩
def ir_laws_toBranchS : IFun := ⟨[0, 2, 3, 4, 11],
  (.seq (.region false [] [⟨some 1, .nilrow t_impl_Branch true 2, none⟩])
  (.seq (.region false [] [⟨none, .mov (.v 0), none⟩, ⟨none, .len false (.r 0), none⟩, ⟨none, .mk t_impl_Branch true 2 (.agg [(.int .i64 0), (.int .i64 0)]) (.r 1), none⟩, ⟨some 2, .mov (.r 2), none⟩])
  (.seq (.seq (.region false [] [⟨some 3, .mov (.c (.int .i64 0)), none⟩])
  (.block 0 (.loop [true, false, true, true, false] (.seq (.seq (.region false [] [⟨none, .mov (.v 3), none⟩, ⟨none, .mov (.v 0), none⟩, ⟨none, .len false (.r 1), none⟩, ⟨some 4, .bin false .lss (.r 0) (.r 2), none⟩])
  (.cond (.v 4) .skip (.exit 0)))
  (.seq (.block 1 (.region false [] [⟨none, .mov (.v 2), none⟩, ⟨none, .mov (.v 3), none⟩, ⟨none, .mov (.v 0), none⟩, ⟨none, .mov (.v 3), none⟩, ⟨none, .iaddr 2 (.r 2) (.r 3), none⟩, ⟨none, .load true 2 (.r 4), none⟩, ⟨none, .call false f_laws_toBranch [(.r 5)], none⟩, ⟨none, .iaddr 2 (.r 0) (.r 1), none⟩, ⟨none, .store 2 (.r 7) (.r 6), none⟩]))
  (.region false [] [⟨none, .mov (.v 3), none⟩, ⟨none, .bin false .add (.r 0) (.c (.int .i64 1)), none⟩, ⟨some 3, .mov (.r 1), none⟩]))))))
  (.seq (.region false [] [⟨none, .mov (.v 2), none⟩, ⟨some 1, .mov (.r 0), none⟩])
  .ret)))),
  [.v 1]⟩
def ir_spec_l1In : IFun := ⟨[0, 1, 2, 6],
  (.seq (.region false [] [⟨some 3, .mov (.c (.bool false)), none⟩])
  (.seq (.region false [] [⟨none, .mov (.v 0), none⟩, ⟨none, .mov (.v 1), none⟩, ⟨none, .bin false .geq (.r 0) (.r 1), none⟩, ⟨none, .mov (.r 2), none⟩, ⟨none, .mov (.v 0), some (3, true)⟩, ⟨none, .mov (.v 2), some (3, true)⟩, ⟨none, .bin false .leq (.r 4) (.r 5), some (3, true)⟩, ⟨none, .pick (.r 3) (.r 6) (.c (.bool false)), none⟩, ⟨some 3, .mov (.r 7), none⟩])
  .ret)),
  [.v 3]⟩
def ir_spec_l11Good : IFun := ⟨[0, 2, 3, 5, 9, 10, 11, 12, 13, 16, 27],
  (.seq (.region false [] [⟨some 1, .mov (.c (.bool false)), none⟩])
  (.seq (.seq (.region false [] [⟨none, .mov (.v 0), none⟩, ⟨none, .len false (.r 0), none⟩, ⟨none, .call false f_spec_l1In [(.r 1), (.c (.int .i64 1)), (.c (.int .i64 15))], none⟩, ⟨some 4, .not (.r 2), none⟩])
  (.cond (.v 4) (.seq (.region false [] [⟨some 1, .mov (.c (.bool false)), none⟩])
  .ret) .skip))
  (.seq (.region false [] [⟨some 2, .mov (.c (.int .i64 0)), none⟩])
  (.seq (.seq (.region false [] [⟨some 5, .mov (.v 0), none⟩, ⟨some 6, .len false (.v 5), none⟩, ⟨some 7, .mov (.c (.int .i64 0)), none⟩])
  (.block 0 (.loop [false, false, true, false, false, true, true, true, false, false, false] (.seq (.region false [] [⟨some 8, .bin false .lss (.v 7) (.v 6), none⟩])
  (.seq (.cond (.v 8) .skip (.exit 0))
  (.seq (.block 1 (.seq (.region false [] [⟨none, .iaddr 2 (.v 5) (.v 7), none⟩, ⟨none, .load true 2 (.r 0), none⟩, ⟨some 3, .alloc t_impl_Branch [(.int .i64 0), (.int .i64 0)], none⟩, ⟨none, .store 2 (.v 3) (.r 1), none⟩])
  (.block 2 (.seq (.region false [] [⟨none, .faddr 0 (.v 3), none⟩, ⟨none, .load false 1 (.r 0), none⟩, ⟨none, .bin false .eql (.r 1) (.c (.int .i64 1)), none⟩, ⟨none, .mov (.r 2), none⟩, ⟨none, .faddr 1 (.v 3), some (3, true)⟩, ⟨none, .load false 1 (.r 4), some (3, true)⟩, ⟨none, .call false f_spec_l1In [(.r 5), (.c (.int .i64 1)), (.c (.int .i64 9))], some (3, true)⟩, ⟨none, .pick (.r 3) (.r 6) (.c (.bool false)), none⟩, ⟨some 9, .mov (.r 7), none⟩])
  (.cond (.v 9) (.region false [] [⟨none, .mov (.v 2), none⟩, ⟨none, .bin false .add (.r 0) (.c (.int .i64 1)), none⟩, ⟨some 2, .mov (.r 1), none⟩]) (.seq (.region false [] [⟨none, .faddr 0 (.v 3), none⟩, ⟨none, .load false 1 (.r 0), none⟩, ⟨none, .call false f_spec_l1In [(.r 1), (.c (.int .i64 2)), (.c (.int .i64 5))], none⟩, ⟨none, .mov (.r 2), none⟩, ⟨none, .faddr 1 (.v 3), some (3, true)⟩, ⟨none, .load false 1 (.r 4), some (3, true)⟩, ⟨none, .bin false .eql (.r 5) (.c (.int .i64 0)), some (3, true)⟩, ⟨none, .pick (.r 3) (.r 6) (.c (.bool false)), none⟩, ⟨none, .mov (.r 7), none⟩, ⟨none, .mov (.v 2), some (8, true)⟩, ⟨none, .bin false .geq (.r 9) (.c (.int .i64 2)), some (8, true)⟩, ⟨none, .pick (.r 8) (.r 10) (.c (.bool false)), none⟩, ⟨some 10, .mov (.r 11), none⟩])
  (.cond (.v 10) (.region false [] [⟨none, .mov (.v 2), none⟩, ⟨none, .bin false .sub (.r 0) (.c (.int .i64 1)), none⟩, ⟨some 2, .mov (.r 1), none⟩]) (.seq (.region false [] [⟨some 1, .mov (.c (.bool false)), none⟩])
  .ret))))))))
  (.region false [] [⟨none, .bin false .add (.v 7) (.c (.int .i64 1)), none⟩, ⟨some 7, .mov (.r 0), none⟩])))))))
  (.seq (.region false [] [⟨none, .mov (.v 2), none⟩, ⟨none, .bin false .eql (.r 0) (.c (.int .i64 1)), none⟩, ⟨some 1, .mov (.r 1), none⟩])
  .ret))))),
  [.v 1]⟩
def ir_spec_l11Build_trans : IFun := ⟨[0, 1, 2, 3],
  (.seq (.region false [] [⟨none, .mov (.v 0), none⟩, ⟨none, .mov (.v 0), none⟩, ⟨none, .ncheck (.r 1), none⟩, ⟨none, .faddr 0 (.r 2), none⟩, ⟨none, .faddr 1 (.r 3), none⟩, ⟨none, .load false 1 (.r 4), none⟩, ⟨none, .mov (.v 1), none⟩, ⟨none, .mov (.v 2), none⟩, ⟨none, .build [(.nil true 1), (.nil true 1), (.nil true 1)] [(0, 1, (.r 6)), (1, 1, (.r 7))], none⟩, ⟨none, .bslice false t_impl_Trans false 3 [(.r 8)], none⟩, ⟨none, .append t_impl_Trans false 3 (.r 5) (.r 9), none⟩, ⟨none, .ncheck (.r 0), none⟩, ⟨none, .faddr 0 (.r 11), none⟩, ⟨none, .faddr 1 (.r 12), none⟩, ⟨none, .store 1 (.r 13) (.r 10), none⟩])
  (.region false [] [⟨none, .mov (.v 0), none⟩, ⟨none, .mov (.v 0), none⟩, ⟨none, .ncheck (.r 1), none⟩, ⟨none, .faddr 2 (.r 2), none⟩, ⟨none, .load false 1 (.r 3), none⟩, ⟨none, .mov (.v 3), none⟩, ⟨none, .bslice false t_int true 1 [(.r 5)], none⟩, ⟨none, .append t_int true 1 (.r 4) (.r 6), none⟩, ⟨none, .ncheck (.r 0), none⟩, ⟨none, .faddr 2 (.r 8), none⟩, ⟨none, .store 1 (.r 9) (.r 7), none⟩])),
  []⟩
def ir_spec_l11First : IFun := ⟨[0, 1, 4, 5, 6, 10, 18],
  (.seq (.region false [] [⟨some 2, .mov (.c (.int .i64 0)), none⟩])
  (.seq (.region false [] [⟨some 3, .mov (.c (.int .i64 1)), none⟩])
  (.seq (.region false [] [⟨none, .mov (.v 1), none⟩, ⟨none, .bin false .sub (.r 0) (.c (.int .i64 1)), none⟩, ⟨some 4, .mov (.r 1), none⟩])
  (.seq (.block 0 (.loop [true, false, false, true, true, false, false] (.seq (.seq (.region false [] [⟨none, .mov (.v 3), none⟩, ⟨some 5, .bin false .gtr (.r 0) (.c (.int .i64 0)), none⟩])
  (.cond (.v 5) .skip (.exit 0)))
  (.block 1 (.seq (.region false [] [⟨none, .mov (.v 3), none⟩, ⟨none, .bin false .sub (.r 0) (.c (.int .i64 1)), none⟩, ⟨some 3, .mov (.r 1), none⟩])
  (.seq (.seq (.region false [] [⟨none, .mov (.v 0), none⟩, ⟨none, .mov (.v 4), none⟩, ⟨none, .iaddr 2 (.r 0) (.r 1), none⟩, ⟨none, .faddr 0 (.r 2), none⟩, ⟨none, .load false 1 (.r 3), none⟩, ⟨some 6, .bin false .neq (.r 4) (.c (.int .i64 1)), none⟩])
  (.cond (.v 6) (.region false [] [⟨none, .mov (.v 3), none⟩, ⟨none, .bin false .add (.r 0) (.c (.int .i64 2)), none⟩, ⟨some 3, .mov (.r 1), none⟩]) .skip))
  (.region false [] [⟨none, .mov (.v 4), none⟩, ⟨none, .bin false .sub (.r 0) (.c (.int .i64 1)), none⟩, ⟨some 4, .mov (.r 1), none⟩])))))))
  (.seq (.region false [] [⟨none, .mov (.v 4), none⟩, ⟨some 2, .mov (.r 0), none⟩])
  .ret))))),
  [.v 2]⟩
def ir_spec_l11Build_part : IFun := ⟨[0, 1, 2, 3, 4, 10, 11, 12, 19, 37, 75, 99, 114],
  (.seq (.region false [] [⟨none, .mov (.v 1), none⟩, ⟨none, .mov (.v 2), none⟩, ⟨none, .iaddr 2 (.r 0) (.r 1), none⟩, ⟨none, .load true 2 (.r 2), none⟩, ⟨some 5, .alloc t_impl_Branch [(.int .i64 0), (.int .i64 0)], none⟩, ⟨none, .store 2 (.v 5) (.r 3), none⟩])
  (.seq (.seq (.region false [] [⟨none, .faddr 0 (.v 5), none⟩, ⟨none, .load false 1 (.r 0), none⟩, ⟨some 8, .bin false .eql (.r 1) (.c (.int .i64 1)), none⟩])
  (.cond (.v 8) (.seq (.region false [] [⟨none, .mov (.v 0), none⟩, ⟨none, .mov (.v 3), none⟩, ⟨none, .bslice false t_int true 1 [(.r 1)], none⟩, ⟨none, .mov (.v 4), none⟩, ⟨none, .bslice false t_int true 1 [(.r 3)], none⟩, ⟨none, .faddr 1 (.v 5), none⟩, ⟨none, .load false 1 (.r 5), none⟩, ⟨none, .callm f_spec_l11Build_trans [(.r 0), (.r 2), (.r 4), (.r 6)], none⟩])
  .ret) .skip))
  (.seq (.region false [] [⟨none, .mov (.v 1), none⟩, ⟨none, .mov (.v 2), none⟩, ⟨none, .call false f_spec_l11First [(.r 0), (.r 1)], none⟩, ⟨some 6, .mov (.r 2), none⟩])
  (.seq (.region false [] [⟨none, .mov (.v 0), none⟩, ⟨none, .ncheck (.r 0), none⟩, ⟨none, .faddr 0 (.r 1), none⟩, ⟨none, .faddr 0 (.r 2), none⟩, ⟨none, .load false 1 (.r 3), none⟩, ⟨some 7, .mov (.r 4), none⟩])
  (.seq (.region false [] [⟨none, .faddr 0 (.v 5), none⟩, ⟨some 9, .load false 1 (.r 0), none⟩])
  (.block 0 (.seq (.region false [] [⟨none, .bin false .eql (.v 9) (.c (.int .i64 2)), none⟩, ⟨some 10, .mov (.r 0), none⟩])
  (.cond (.v 10) (.seq (.region false [] [⟨none, .mov (.v 0), none⟩, ⟨none, .ncheck (.r 0), none⟩, ⟨none, .faddr 0 (.r 1), none⟩, ⟨none, .faddr 0 (.r 2), none⟩, ⟨none, .load false 1 (.r 3), none⟩, ⟨none, .bin false .add (.r 4) (.c (.int .i64 1)), none⟩, ⟨none, .ncheck (.r 0), none⟩, ⟨none, .faddr 0 (.r 6), none⟩, ⟨none, .faddr 0 (.r 7), none⟩, ⟨none, .store 1 (.r 8) (.r 5), none⟩])
  (.seq (.region false [] [⟨none, .mov (.v 0), none⟩, ⟨none, .mov (.v 1), none⟩, ⟨none, .mov (.v 6), none⟩, ⟨none, .mov (.v 3), none⟩, ⟨none, .mov (.v 7), none⟩, ⟨none, .callm f_spec_l11Build_part [(.r 0), (.r 1), (.r 2), (.r 3), (.r 4)], none⟩])
  (.region false [] [⟨none, .mov (.v 0), none⟩, ⟨none, .mov (.v 1), none⟩, ⟨none, .mov (.v 2), none⟩, ⟨none, .bin false .sub (.r 2) (.c (.int .i64 1)), none⟩, ⟨none, .mov (.v 7), none⟩, ⟨none, .mov (.v 4), none⟩, ⟨none, .callm f_spec_l11Build_part [(.r 0), (.r 1), (.r 3), (.r 4), (.r 5)], none⟩]))) (.seq (.region false [] [⟨none, .bin false .eql (.v 9) (.c (.int .i64 3)), none⟩, ⟨some 11, .mov (.r 0), none⟩])
  (.cond (.v 11) (.seq (.region false [] [⟨none, .mov (.v 0), none⟩, ⟨none, .mov (.v 1), none⟩, ⟨none, .mov (.v 6), none⟩, ⟨none, .mov (.v 3), none⟩, ⟨none, .mov (.v 4), none⟩, ⟨none, .callm f_spec_l11Build_part [(.r 0), (.r 1), (.r 2), (.r 3), (.r 4)], none⟩])
  (.region false [] [⟨none, .mov (.v 0), none⟩, ⟨none, .mov (.v 1), none⟩, ⟨none, .mov (.v 2), none⟩, ⟨none, .bin false .sub (.r 2) (.c (.int .i64 1)), none⟩, ⟨none, .mov (.v 3), none⟩, ⟨none, .mov (.v 4), none⟩, ⟨none, .callm f_spec_l11Build_part [(.r 0), (.r 1), (.r 3), (.r 4), (.r 5)], none⟩])) (.seq (.region false [] [⟨none, .bin false .eql (.v 9) (.c (.int .i64 4)), none⟩, ⟨some 12, .mov (.r 0), none⟩])
  (.cond (.v 12) (.seq (.region false [] [⟨none, .mov (.v 0), none⟩, ⟨none, .ncheck (.r 0), none⟩, ⟨none, .faddr 0 (.r 1), none⟩, ⟨none, .faddr 0 (.r 2), none⟩, ⟨none, .load false 1 (.r 3), none⟩, ⟨none, .bin false .add (.r 4) (.c (.int .i64 4)), none⟩, ⟨none, .ncheck (.r 0), none⟩, ⟨none, .faddr 0 (.r 6), none⟩, ⟨none, .faddr 0 (.r 7), none⟩, ⟨none, .store 1 (.r 8) (.r 5), none⟩])
  (.seq (.region false [] [⟨none, .mov (.v 0), none⟩, ⟨none, .mov (.v 3), none⟩, ⟨none, .bslice false t_int true 1 [(.r 1)], none⟩, ⟨none, .mov (.v 7), none⟩, ⟨none, .mov (.v 7), none⟩, ⟨none, .bin false .add (.r 4) (.c (.int .i64 1)), none⟩, ⟨none, .bslice false t_int true 1 [(.r 3), (.r 5)], none⟩, ⟨none, .callm f_spec_l11Build_trans [(.r 0), (.r 2), (.r 6), (.c (.int .i64 0))], none⟩])
  (.seq (.region false [] [⟨none, .mov (.v 0), none⟩, ⟨none, .mov (.v 7), none⟩, ⟨none, .bin false .add (.r 1) (.c (.int .i64 2)), none⟩, ⟨none, .mov (.v 7), none⟩, ⟨none, .bin false .add (.r 3) (.c (.int .i64 3)), none⟩, ⟨none, .bslice false t_int true 1 [(.r 2), (.r 4)], none⟩, ⟨none, .mov (.v 4), none⟩, ⟨none, .bslice false t_int true 1 [(.r 6)], none⟩, ⟨none, .callm f_spec_l11Build_trans [(.r 0), (.r 5), (.r 7), (.c (.int .i64 0))], none⟩])
  (.seq (.region false [] [⟨none, .mov (.v 0), none⟩, ⟨none, .mov (.v 1), none⟩, ⟨none, .mov (.v 6), none⟩, ⟨none, .mov (.v 7), none⟩, ⟨none, .mov (.v 7), none⟩, ⟨none, .bin false .add (.r 4) (.c (.int .i64 2)), none⟩, ⟨none, .callm f_spec_l11Build_part [(.r 0), (.r 1), (.r 2), (.r 3), (.r 5)], none⟩])
  (.region false [] [⟨none, .mov (.v 0), none⟩, ⟨none, .mov (.v 1), none⟩, ⟨none, .mov (.v 2), none⟩, ⟨none, .bin false .sub (.r 2) (.c (.int .i64 1)), none⟩, ⟨none, .mov (.v 7), none⟩, ⟨none, .bin false .add (.r 4) (.c (.int .i64 1)), none⟩, ⟨none, .mov (.v 7), none⟩, ⟨none, .bin false .add (.r 6) (.c (.int .i64 3)), none⟩, ⟨none, .callm f_spec_l11Build_part [(.r 0), (.r 1), (.r 3), (.r 5), (.r 7)], none⟩]))))) (.seq (.region false [] [⟨none, .mov (.v 0), none⟩, ⟨none, .ncheck (.r 0), none⟩, ⟨none, .faddr 0 (.r 1), none⟩, ⟨none, .faddr 0 (.r 2), none⟩, ⟨none, .load false 1 (.r 3), none⟩, ⟨none, .bin false .add (.r 4) (.c (.int .i64 2)), none⟩, ⟨none, .ncheck (.r 0), none⟩, ⟨none, .faddr 0 (.r 6), none⟩, ⟨none, .faddr 0 (.r 7), none⟩, ⟨none, .store 1 (.r 8) (.r 5), none⟩])
  (.seq (.region false [] [⟨none, .mov (.v 0), none⟩, ⟨none, .mov (.v 3), none⟩, ⟨none, .bslice false t_int true 1 [(.r 1)], none⟩, ⟨none, .mov (.v 7), none⟩, ⟨none, .bslice false t_int true 1 [(.r 3)], none⟩, ⟨none, .callm f_spec_l11Build_trans [(.r 0), (.r 2), (.r 4), (.c (.int .i64 0))], none⟩])
  (.seq (.region false [] [⟨none, .mov (.v 0), none⟩, ⟨none, .mov (.v 7), none⟩, ⟨none, .bin false .add (.r 1) (.c (.int .i64 1)), none⟩, ⟨none, .bslice false t_int true 1 [(.r 2)], none⟩, ⟨none, .mov (.v 4), none⟩, ⟨none, .bslice false t_int true 1 [(.r 4)], none⟩, ⟨none, .callm f_spec_l11Build_trans [(.r 0), (.r 3), (.r 5), (.c (.int .i64 0))], none⟩])
  (.seq (.region false [] [⟨none, .mov (.v 0), none⟩, ⟨none, .mov (.v 1), none⟩, ⟨none, .mov (.v 6), none⟩, ⟨none, .mov (.v 7), none⟩, ⟨none, .mov (.v 7), none⟩, ⟨none, .bin false .add (.r 4) (.c (.int .i64 1)), none⟩, ⟨none, .callm f_spec_l11Build_part [(.r 0), (.r 1), (.r 2), (.r 3), (.r 5)], none⟩])
  (.region false [] [⟨none, .mov (.v 0), none⟩, ⟨none, .mov (.v 1), none⟩, ⟨none, .mov (.v 2), none⟩, ⟨none, .bin false .sub (.r 2) (.c (.int .i64 1)), none⟩, ⟨none, .mov (.v 7), none⟩, ⟨none, .bin false .add (.r 4) (.c (.int .i64 1)), none⟩, ⟨none, .mov (.v 7), none⟩, ⟨none, .callm f_spec_l11Build_part [(.r 0), (.r 1), (.r 3), (.r 5), (.r 6)], none⟩]))))))))))))))))),
  []⟩
def ir_spec_l1Places : IFun := ⟨[0, 2],
  (.seq (.region false [] [⟨some 1, .mov (.c (.bool false)), none⟩])
  (.seq (.region false [] [⟨none, .mov (.v 0), none⟩, ⟨none, .call false f_spec_l1In [(.r 0), (.c (.int .i64 1)), (.c (.int .i64 16))], none⟩, ⟨some 1, .mov (.r 1), none⟩])
  .ret)),
  [.v 1]⟩
def ir_spec_l1Rising : IFun := ⟨[0, 1, 2, 6, 7, 8, 9, 10, 11, 12, 33],
  (.seq (.region false [] [⟨some 3, .mov (.c (.bool false)), none⟩])
  (.seq (.seq (.region false [] [⟨some 6, .mov (.v 0), none⟩, ⟨some 7, .len false (.v 6), none⟩, ⟨some 8, .mov (.c (.int .i64 0)), none⟩])
  (.block 0 (.loop [true, true, true, false, false, false, true, true, true, false, false] (.seq (.region false [] [⟨some 9, .bin false .lss (.v 8) (.v 7), none⟩])
  (.seq (.cond (.v 9) .skip (.exit 0))
  (.seq (.block 1 (.seq (.region false [] [⟨none, .mov (.v 8), none⟩, ⟨none, .iaddr 1 (.v 6) (.v 8), none⟩, ⟨none, .load false 1 (.r 1), none⟩, ⟨some 4, .mov (.r 0), none⟩, ⟨some 5, .mov (.r 2), none⟩])
  (.seq (.region false [] [⟨none, .mov (.v 5), none⟩, ⟨none, .mov (.v 1), none⟩, ⟨none, .mov (.v 2), none⟩, ⟨none, .call false f_spec_l1In [(.r 0), (.r 1), (.r 2)], none⟩, ⟨none, .not (.r 3), none⟩, ⟨none, .mov (.r 4), none⟩, ⟨none, .mov (.v 4), some (5, false)⟩, ⟨none, .bin false .gtr (.r 6) (.c (.int .i64 0)), some (5, false)⟩, ⟨none, .mov (.r 7), some (5, false)⟩, ⟨none, .mov (.v 0), some (8, true)⟩, ⟨none, .mov (.v 4), some (8, true)⟩, ⟨none, .bin false .sub (.r 10) (.c (.int .i64 1)), some (8, true)⟩, ⟨none, .iaddr 1 (.r 9) (.r 11), some (8, true)⟩, ⟨none, .load false 1 (.r 12), some (8, true)⟩, ⟨none, .mov (.v 5), some (8, true)⟩, ⟨none, .bin false .geq (.r 13) (.r 14), some (8, true)⟩, ⟨none, .pick (.r 8) (.r 15) (.c (.bool false)), some (5, false)⟩, ⟨some 10, .pick (.r 5) (.c (.bool true)) (.r 16), none⟩])
  (.cond (.v 10) (.seq (.region false [] [⟨some 3, .mov (.c (.bool false)), none⟩])
  .ret) .skip))))
  (.region false [] [⟨none, .bin false .add (.v 8) (.c (.int .i64 1)), none⟩, ⟨some 8, .mov (.r 0), none⟩])))))))
  (.seq (.region false [] [⟨some 3, .mov (.c (.bool true)), none⟩])
  .ret))),
  [.v 3]⟩
def ir_spec_GoodNet : IFun := ⟨[0, 1, 2, 4, 14, 16, 17, 18, 19, 52],
  (.seq (.region false [] [⟨some 1, .box t_impl_Net 2 (.v 0), none⟩, ⟨some 2, .mov (.c (.bool false)), none⟩])
  (.seq (.seq (.region false [] [⟨none, .faddr 0 (.v 1), none⟩, ⟨none, .load false 1 (.r 0), none⟩, ⟨none, .call false f_spec_l1Places [(.r 1)], none⟩, ⟨none, .not (.r 2), none⟩, ⟨none, .mov (.r 3), none⟩, ⟨none, .faddr 1 (.v 1), some (4, false)⟩, ⟨none, .load false 1 (.r 5), some (4, false)⟩, ⟨none, .len false (.r 6), some (4, false)⟩, ⟨none, .bin false .gtr (.r 7) (.c (.int .i64 24)), some (4, false)⟩, ⟨some 4, .pick (.r 4) (.c (.bool true)) (.r 8), none⟩])
  (.cond (.v 4) (.seq (.region false [] [⟨some 2, .mov (.c (.bool false)), none⟩])
  .ret) .skip))
  (.seq (.seq (.region false [] [⟨none, .faddr 1 (.v 1), none⟩, ⟨some 5, .load false 1 (.r 0), none⟩, ⟨some 6, .len false (.v 5), none⟩, ⟨some 7, .mov (.c (.int .i64 0)), none⟩])
  (.block 0 (.loop [false, true, false, false, false, true, true, true, false, false] (.seq (.region false [] [⟨some 8, .bin false .lss (.v 7) (.v 6), none⟩])
  (.seq (.cond (.v 8) .skip (.exit 0))
  (.seq (.block 1 (.seq (.region false [] [⟨none, .iaddr 3 (.v 5) (.v 7), none⟩, ⟨none, .load true 3 (.r 0), none⟩, ⟨some 3, .alloc t_impl_Trans [(.nil true 1), (.nil true 1), (.nil true 1)], none⟩, ⟨none, .store 3 (.v 3) (.r 1), none⟩])
  (.seq (.region false [] [⟨none, .faddr 0 (.v 3), none⟩, ⟨none, .load false 1 (.r 0), none⟩, ⟨none, .len false (.r 1), none⟩, ⟨none, .bin false .eql (.r 2) (.c (.int .i64 0)), none⟩, ⟨none, .mov (.r 3), none⟩, ⟨none, .faddr 0 (.v 3), some (4, false)⟩, ⟨none, .load false 1 (.r 5), some (4, false)⟩, ⟨none, .faddr 0 (.v 1), some (4, false)⟩, ⟨none, .load false 1 (.r 7), some (4, false)⟩, ⟨none, .bin false .sub (.r 8) (.c (.int .i64 1)), some (4, false)⟩, ⟨none, .call false f_spec_l1Rising [(.r 6), (.c (.int .i64 0)), (.r 9)], some (4, false)⟩, ⟨none, .not (.r 10), some (4, false)⟩, ⟨none, .pick (.r 4) (.c (.bool true)) (.r 11), none⟩, ⟨none, .mov (.r 12), none⟩, ⟨none, .faddr 1 (.v 3), some (13, false)⟩, ⟨none, .load false 1 (.r 14), some (13, false)⟩, ⟨none, .faddr 0 (.v 1), some (13, false)⟩, ⟨none, .load false 1 (.r 16), some (13, false)⟩, ⟨none, .bin false .sub (.r 17) (.c (.int .i64 1)), some (13, false)⟩, ⟨none, .call false f_spec_l1Rising [(.r 15), (.c (.int .i64 0)), (.r 18)], some (13, false)⟩, ⟨none, .not (.r 19), some (13, false)⟩, ⟨none, .pick (.r 13) (.c (.bool true)) (.r 20), none⟩, ⟨none, .mov (.r 21), none⟩, ⟨none, .faddr 2 (.v 3), some (22, false)⟩, ⟨none, .load false 1 (.r 23), some (22, false)⟩, ⟨none, .faddr 0 (.v 1), some (22, false)⟩, ⟨none, .load false 1 (.r 25), some (22, false)⟩, ⟨none, .bin false .sub (.r 26) (.c (.int .i64 1)), some (22, false)⟩, ⟨none, .call false f_spec_l1Rising [(.r 24), (.c (.int .i64 0)), (.r 27)], some (22, false)⟩, ⟨none, .not (.r 28), some (22, false)⟩, ⟨some 9, .pick (.r 22) (.c (.bool true)) (.r 29), none⟩])
  (.cond (.v 9) (.seq (.region false [] [⟨some 2, .mov (.c (.bool false)), none⟩])
  .ret) .skip))))
  (.region false [] [⟨none, .bin false .add (.v 7) (.c (.int .i64 1)), none⟩, ⟨some 7, .mov (.r 0), none⟩])))))))
  (.seq (.region false [] [⟨some 2, .mov (.c (.bool true)), none⟩])
  .ret)))),
  [.v 2]⟩
def ir_spec_l3Forward : IFun := ⟨[0, 1, 2, 4, 5, 6, 7, 8, 9, 10, 11, 13, 15, 26, 28, 29, 30, 31, 36, 37, 38, 39, 57, 62, 63, 64, 65],
  (.seq (.region false [] [⟨some 2, .box t_impl_Net 2 (.v 0), none⟩, ⟨some 3, .nilrow t_bool true 1, none⟩, ⟨some 4, .nilrow t_bool true 1, none⟩])
  (.seq (.region false [] [⟨none, .faddr 0 (.v 2), none⟩, ⟨none, .load false 1 (.r 0), none⟩, ⟨none, .mk t_bool true 1 (.bool false) (.r 1), none⟩, ⟨some 5, .mov (.r 2), none⟩])
  (.seq (.region false [] [⟨none, .faddr 1 (.v 2), none⟩, ⟨none, .load false 1 (.r 0), none⟩, ⟨none, .len false (.r 1), none⟩, ⟨none, .mk t_bool true 1 (.bool false) (.r 2), none⟩, ⟨some 6, .mov (.r 3), none⟩])
  (.seq (.region false [] [⟨none, .mov (.v 5), none⟩, ⟨none, .mov (.v 1), none⟩, ⟨none, .iaddr 1 (.r 0) (.r 1), none⟩, ⟨none, .store 1 (.r 2) (.c (.bool true)), none⟩])
  (.seq (.seq (.region false [] [⟨some 7, .mov (.c (.bool true)), none⟩])
  (.block 0 (.loop [false, false, true, false, false, true, true, true, false, false, false, false, false, false, false, false, false, false, false, false, false, false, false, false, false, false, false] (.seq (.seq (.region false [] [⟨some 13, .mov (.v 7), none⟩])
  (.cond (.v 13) .skip (.exit 0)))
  (.block 1 (.seq (.region false [] [⟨some 7, .mov (.c (.bool false)), none⟩])
  (.seq (.region false [] [⟨none, .faddr 1 (.v 2), none⟩, ⟨some 14, .load false 1 (.r 0), none⟩, ⟨some 15, .len false (.v 14), none⟩, ⟨some 16, .mov (.c (.int .i64 0)), none⟩])
  (.block 2 (.loop [false, false, true, false, false, true, true, true, false, false, false, false, false, false, true, true, true, false, false, false, false, false, false, false, false, false, false] (.seq (.region false [] [⟨some 17, .bin false .lss (.v 16) (.v 15), none⟩])
  (.seq (.cond (.v 17) .skip (.exit 2))
  (.seq (.block 3 (.seq (.region false [] [⟨none, .mov (.v 16), none⟩, ⟨none, .iaddr 3 (.v 14) (.v 16), none⟩, ⟨none, .load true 3 (.r 1), none⟩, ⟨some 9, .alloc t_impl_Trans [(.nil true 1), (.nil true 1), (.nil true 1)], none⟩, ⟨some 8, .mov (.r 0), none⟩, ⟨none, .store 3 (.v 9) (.r 2), none⟩])
  (.seq (.region false [] [⟨some 10, .mov (.c (.bool false)), none⟩])
  (.seq (.seq (.region false [] [⟨none, .faddr 0 (.v 9), none⟩, ⟨some 18, .load false 1 (.r 0), none⟩, ⟨some 19, .len false (.v 18), none⟩, ⟨some 20, .mov (.c (.int .i64 0)), none⟩])
  (.block 4 (.loop [false, false, true, false, false, true, true, true, true, true, true, false, false, false, true, true, true, false, true, true, true, false, false, false, false, false, false] (.seq (.region false [] [⟨some 21, .bin false .lss (.v 20) (.v 19), none⟩])
  (.seq (.cond (.v 21) .skip (.exit 4))
  (.seq (.block 5 (.seq (.region false [] [⟨none, .iaddr 1 (.v 18) (.v 20), none⟩, ⟨none, .load false 1 (.r 0), none⟩, ⟨some 11, .mov (.r 1), none⟩])
  (.region false [] [⟨none, .mov (.v 10), none⟩, ⟨none, .mov (.r 0), none⟩, ⟨none, .mov (.v 5), some (1, false)⟩, ⟨none, .mov (.v 11), some (1, false)⟩, ⟨none, .iaddr 1 (.r 2) (.r 3), some (1, false)⟩, ⟨none, .load false 1 (.r 4), some (1, false)⟩, ⟨none, .pick (.r 1) (.c (.bool true)) (.r 5), none⟩, ⟨some 10, .mov (.r 6), none⟩])))
  (.region false [] [⟨none, .bin false .add (.v 20) (.c (.int .i64 1)), none⟩, ⟨some 20, .mov (.r 0), none⟩])))))))
  (.seq (.seq (.region false [] [⟨none, .mov (.v 10), none⟩, ⟨none, .not (.r 0), none⟩, ⟨none, .mov (.r 1), none⟩, ⟨none, .mov (.v 6), some (2, false)⟩, ⟨none, .mov (.v 8), some (2, false)⟩, ⟨none, .iaddr 1 (.r 3) (.r 4), some (2, false)⟩, ⟨none, .load false 1 (.r 5), some (2, false)⟩, ⟨some 22, .pick (.r 2) (.c (.bool true)) (.r 6), none⟩])
  (.cond (.v 22) (.exit 3) .skip))
  (.seq (.region false [] [⟨none, .mov (.v 6), none⟩, ⟨none, .mov (.v 8), none⟩, ⟨none, .iaddr 1 (.r 0) (.r 1), none⟩, ⟨none, .store 1 (.r 2) (.c (.bool true)), none⟩])
  (.seq (.region false [] [⟨some 7, .mov (.c (.bool true)), none⟩])
  (.seq (.region false [] [⟨none, .faddr 1 (.v 9), none⟩, ⟨some 23, .load false 1 (.r 0), none⟩, ⟨some 24, .len false (.v 23), none⟩, ⟨some 25, .mov (.c (.int .i64 0)), none⟩])
  (.block 6 (.loop [false, false, true, false, false, true, true, true, false, false, false, false, false, false, true, true, true, false, false, false, false, false, false, true, true, true, false] (.seq (.region false [] [⟨some 26, .bin false .lss (.v 25) (.v 24), none⟩])
  (.seq (.cond (.v 26) .skip (.exit 6))
  (.seq (.block 7 (.seq (.region false [] [⟨none, .iaddr 1 (.v 23) (.v 25), none⟩, ⟨none, .load false 1 (.r 0), none⟩, ⟨some 12, .mov (.r 1), none⟩])
  (.region false [] [⟨none, .mov (.v 5), none⟩, ⟨none, .mov (.v 12), none⟩, ⟨none, .iaddr 1 (.r 0) (.r 1), none⟩, ⟨none, .store 1 (.r 2) (.c (.bool true)), none⟩])))
  (.region false [] [⟨none, .bin false .add (.v 25) (.c (.int .i64 1)), none⟩, ⟨some 25, .mov (.r 0), none⟩]))))))))))))))
  (.region false [] [⟨none, .bin false .add (.v 16) (.c (.int .i64 1)), none⟩, ⟨some 16, .mov (.r 0), none⟩])))))))))))))
  (.seq (.region false [] [⟨none, .mov (.v 5), none⟩, ⟨none, .mov (.v 6), none⟩, ⟨some 3, .mov (.r 0), none⟩, ⟨some 4, .mov (.r 1), none⟩])
  .ret)))))),
  [.v 3, .v 4]⟩
def ir_spec_l3Back : IFun := ⟨[0, 1, 2, 4, 5, 6, 7, 8, 9, 10, 11, 13, 15, 26, 28, 29, 30, 31, 36, 37, 38, 39, 57, 62, 63, 64, 65],
  (.seq (.region false [] [⟨some 2, .box t_impl_Net 2 (.v 0), none⟩, ⟨some 3, .nilrow t_bool true 1, none⟩, ⟨some 4, .nilrow t_bool true 1, none⟩])
  (.seq (.region false [] [⟨none, .faddr 0 (.v 2), none⟩, ⟨none, .load false 1 (.r 0), none⟩, ⟨none, .mk t_bool true 1 (.bool false) (.r 1), none⟩, ⟨some 5, .mov (.r 2), none⟩])
  (.seq (.region false [] [⟨none, .faddr 1 (.v 2), none⟩, ⟨none, .load false 1 (.r 0), none⟩, ⟨none, .len false (.r 1), none⟩, ⟨none, .mk t_bool true 1 (.bool false) (.r 2), none⟩, ⟨some 6, .mov (.r 3), none⟩])
  (.seq (.region false [] [⟨none, .mov (.v 5), none⟩, ⟨none, .mov (.v 1), none⟩, ⟨none, .iaddr 1 (.r 0) (.r 1), none⟩, ⟨none, .store 1 (.r 2) (.c (.bool true)), none⟩])
  (.seq (.seq (.region false [] [⟨some 7, .mov (.c (.bool true)), none⟩])
  (.block 0 (.loop [false, false, true, false, false, true, true, true, false, false, false, false, false, false, false, false, false, false, false, false, false, false, false, false, false, false, false] (.seq (.seq (.region false [] [⟨some 13, .mov (.v 7), none⟩])
  (.cond (.v 13) .skip (.exit 0)))
  (.block 1 (.seq (.region false [] [⟨some 7, .mov (.c (.bool false)), none⟩])
  (.seq (.region false [] [⟨none, .faddr 1 (.v 2), none⟩, ⟨some 14, .load false 1 (.r 0), none⟩, ⟨some 15, .len false (.v 14), none⟩, ⟨some 16, .mov (.c (.int .i64 0)), none⟩])
  (.block 2 (.loop [false, false, true, false, false, true, true, true, false, false, false, false, false, false, true, true, true, false, false, false, false, false, false, false, false, false, false] (.seq (.region false [] [⟨some 17, .bin false .lss (.v 16) (.v 15), none⟩])
  (.seq (.cond (.v 17) .skip (.exit 2))
  (.seq (.block 3 (.seq (.region false [] [⟨none, .mov (.v 16), none⟩, ⟨none, .iaddr 3 (.v 14) (.v 16), none⟩, ⟨none, .load true 3 (.r 1), none⟩, ⟨some 9, .alloc t_impl_Trans [(.nil true 1), (.nil true 1), (.nil true 1)], none⟩, ⟨some 8, .mov (.r 0), none⟩, ⟨none, .store 3 (.v 9) (.r 2), none⟩])
  (.seq (.region false [] [⟨some 10, .mov (.c (.bool false)), none⟩])
  (.seq (.seq (.region false [] [⟨none, .faddr 1 (.v 9), none⟩, ⟨some 18, .load false 1 (.r 0), none⟩, ⟨some 19, .len false (.v 18), none⟩, ⟨some 20, .mov (.c (.int .i64 0)), none⟩])
  (.block 4 (.loop [false, false, true, false, false, true, true, true, true, true, true, false, false, false, true, true, true, false, true, true, true, false, false, false, false, false, false] (.seq (.region false [] [⟨some 21, .bin false .lss (.v 20) (.v 19), none⟩])
  (.seq (.cond (.v 21) .skip (.exit 4))
  (.seq (.block 5 (.seq (.region false [] [⟨none, .iaddr 1 (.v 18) (.v 20), none⟩, ⟨none, .load false 1 (.r 0), none⟩, ⟨some 11, .mov (.r 1), none⟩])
  (.region false [] [⟨none, .mov (.v 10), none⟩, ⟨none, .mov (.r 0), none⟩, ⟨none, .mov (.v 5), some (1, false)⟩, ⟨none, .mov (.v 11), some (1, false)⟩, ⟨none, .iaddr 1 (.r 2) (.r 3), some (1, false)⟩, ⟨none, .load false 1 (.r 4), some (1, false)⟩, ⟨none, .pick (.r 1) (.c (.bool true)) (.r 5), none⟩, ⟨some 10, .mov (.r 6), none⟩])))
  (.region false [] [⟨none, .bin false .add (.v 20) (.c (.int .i64 1)), none⟩, ⟨some 20, .mov (.r 0), none⟩])))))))
  (.seq (.seq (.region false [] [⟨none, .mov (.v 10), none⟩, ⟨none, .not (.r 0), none⟩, ⟨none, .mov (.r 1), none⟩, ⟨none, .mov (.v 6), some (2, false)⟩, ⟨none, .mov (.v 8), some (2, false)⟩, ⟨none, .iaddr 1 (.r 3) (.r 4), some (2, false)⟩, ⟨none, .load false 1 (.r 5), some (2, false)⟩, ⟨some 22, .pick (.r 2) (.c (.bool true)) (.r 6), none⟩])
  (.cond (.v 22) (.exit 3) .skip))
  (.seq (.region false [] [⟨none, .mov (.v 6), none⟩, ⟨none, .mov (.v 8), none⟩, ⟨none, .iaddr 1 (.r 0) (.r 1), none⟩, ⟨none, .store 1 (.r 2) (.c (.bool true)), none⟩])
  (.seq (.region false [] [⟨some 7, .mov (.c (.bool true)), none⟩])
  (.seq (.region false [] [⟨none, .faddr 0 (.v 9), none⟩, ⟨some 23, .load false 1 (.r 0), none⟩, ⟨some 24, .len false (.v 23), none⟩, ⟨some 25, .mov (.c (.int .i64 0)), none⟩])
  (.block 6 (.loop [false, false, true, false, false, true, true, true, false, false, false, false, false, false, true, true, true, false, false, false, false, false, false, true, true, true, false] (.seq (.region false [] [⟨some 26, .bin false .lss (.v 25) (.v 24), none⟩])
  (.seq (.cond (.v 26) .skip (.exit 6))
  (.seq (.block 7 (.seq (.region false [] [⟨none, .iaddr 1 (.v 23) (.v 25), none⟩, ⟨none, .load false 1 (.r 0), none⟩, ⟨some 12, .mov (.r 1), none⟩])
  (.region false [] [⟨none, .mov (.v 5), none⟩, ⟨none, .mov (.v 12), none⟩, ⟨none, .iaddr 1 (.r 0) (.r 1), none⟩, ⟨none, .store 1 (.r 2) (.c (.bool true)), none⟩])))
  (.region false [] [⟨none, .bin false .add (.v 25) (.c (.int .i64 1)), none⟩, ⟨some 25, .mov (.r 0), none⟩]))))))))))))))
  (.region false [] [⟨none, .bin false .add (.v 16) (.c (.int .i64 1)), none⟩, ⟨some 16, .mov (.r 0), none⟩])))))))))))))
  (.seq (.region false [] [⟨none, .mov (.v 5), none⟩, ⟨none, .mov (.v 6), none⟩, ⟨some 3, .mov (.r 0), none⟩, ⟨some 4, .mov (.r 1), none⟩])
  .ret)))))),
  [.v 3, .v 4]⟩
def ir_spec_l3Both : IFun := ⟨[0, 1, 4, 5, 6, 8, 9, 10, 21],
  (.seq (.region false [] [⟨some 2, .nilrow t_int true 1, none⟩])
  (.seq (.region false [] [⟨some 3, .nilrow t_int true 1, none⟩])
  (.seq (.seq (.region false [] [⟨none, .mov (.v 0), none⟩, ⟨some 5, .len false (.r 0), none⟩, ⟨some 6, .mov (.c (.int .i64 0)), none⟩])
  (.block 0 (.loop [true, true, false, true, false, true, true, false, false] (.seq (.region false [] [⟨some 7, .bin false .lss (.v 6) (.v 5), none⟩])
  (.seq (.cond (.v 7) .skip (.exit 0))
  (.seq (.block 1 (.seq (.region false [] [⟨none, .mov (.v 6), none⟩, ⟨some 4, .mov (.r 0), none⟩])
  (.seq (.region false [] [⟨none, .mov (.v 0), none⟩, ⟨none, .mov (.v 4), none⟩, ⟨none, .iaddr 1 (.r 0) (.r 1), none⟩, ⟨none, .load false 1 (.r 2), none⟩, ⟨none, .mov (.r 3), none⟩, ⟨none, .mov (.v 1), some (4, true)⟩, ⟨none, .mov (.v 4), some (4, true)⟩, ⟨none, .iaddr 1 (.r 5) (.r 6), some (4, true)⟩, ⟨none, .load false 1 (.r 7), some (4, true)⟩, ⟨some 8, .pick (.r 4) (.r 8) (.c (.bool false)), none⟩])
  (.cond (.v 8) (.region false [] [⟨none, .mov (.v 3), none⟩, ⟨none, .mov (.v 4), none⟩, ⟨none, .bslice false t_int true 1 [(.r 1)], none⟩, ⟨none, .append t_int true 1 (.r 0) (.r 2), none⟩, ⟨some 3, .mov (.r 3), none⟩]) .skip))))
  (.region false [] [⟨none, .bin false .add (.v 6) (.c (.int .i64 1)), none⟩, ⟨some 6, .mov (.r 0), none⟩])))))))
  (.seq (.region false [] [⟨none, .mov (.v 3), none⟩, ⟨some 2, .mov (.r 0), none⟩])
  .ret)))),
  [.v 2]⟩
def ir_spec_OnWay : IFun := ⟨[0, 1, 2, 3, 6, 7, 8, 9, 10, 11, 12, 31],
  (.seq (.region false [] [⟨some 3, .box t_impl_Net 2 (.v 0), none⟩, ⟨some 4, .nilrow t_int true 1, none⟩, ⟨some 5, .nilrow t_int true 1, none⟩, ⟨some 6, .mov (.c (.bool false)), none⟩])
  (.seq (.seq (.region false [] [⟨none, .load true 2 (.v 3), none⟩, ⟨none, .call false f_spec_GoodNet [(.r 0)], none⟩, ⟨none, .not (.r 1), none⟩, ⟨none, .mov (.r 2), none⟩, ⟨none, .mov (.v 1), some (3, false)⟩, ⟨none, .faddr 0 (.v 3), some (3, false)⟩, ⟨none, .load false 1 (.r 5), some (3, false)⟩, ⟨none, .bin false .sub (.r 6) (.c (.int .i64 1)), some (3, false)⟩, ⟨none, .call false f_spec_l1In [(.r 4), (.c (.int .i64 0)), (.r 7)], some (3, false)⟩, ⟨none, .not (.r 8), some (3, false)⟩, ⟨none, .pick (.r 3) (.c (.bool true)) (.r 9), none⟩, ⟨none, .mov (.r 10), none⟩, ⟨none, .mov (.v 2), some (11, false)⟩, ⟨none, .faddr 0 (.v 3), some (11, false)⟩, ⟨none, .load false 1 (.r 13), some (11, false)⟩, ⟨none, .bin false .sub (.r 14) (.c (.int .i64 1)), some (11, false)⟩, ⟨none, .call false f_spec_l1In [(.r 12), (.c (.int .i64 0)), (.r 15)], some (11, false)⟩, ⟨none, .not (.r 16), some (11, false)⟩, ⟨some 11, .pick (.r 11) (.c (.bool true)) (.r 17), none⟩])
  (.cond (.v 11) (.seq (.region false [] [⟨some 4, .nilrow t_int true 1, none⟩, ⟨some 5, .nilrow t_int true 1, none⟩, ⟨some 6, .mov (.c (.bool false)), none⟩])
  .ret) .skip))
  (.seq (.region false [] [⟨none, .load true 2 (.v 3), none⟩, ⟨none, .mov (.v 1), none⟩, ⟨none, .call false f_spec_l3Forward [(.r 0), (.r 1)], none⟩, ⟨none, .mov (.r 2), none⟩, ⟨none, .extract (.r 3) 0, none⟩, ⟨none, .extract (.r 3) 1, none⟩, ⟨some 7, .mov (.r 4), none⟩, ⟨some 8, .mov (.r 5), none⟩])
  (.seq (.region false [] [⟨none, .load true 2 (.v 3), none⟩, ⟨none, .mov (.v 2), none⟩, ⟨none, .call false f_spec_l3Back [(.r 0), (.r 1)], none⟩, ⟨none, .mov (.r 2), none⟩, ⟨none, .extract (.r 3) 0, none⟩, ⟨none, .extract (.r 3) 1, none⟩, ⟨some 9, .mov (.r 4), none⟩, ⟨some 10, .mov (.r 5), none⟩])
  (.seq (.region false [] [⟨none, .mov (.v 7), none⟩, ⟨none, .mov (.v 9), none⟩, ⟨none, .call false f_spec_l3Both [(.r 0), (.r 1)], none⟩, ⟨none, .mov (.v 8), none⟩, ⟨none, .mov (.v 10), none⟩, ⟨none, .call false f_spec_l3Both [(.r 3), (.r 4)], none⟩, ⟨some 4, .mov (.r 2), none⟩, ⟨some 5, .mov (.r 5), none⟩, ⟨some 6, .mov (.c (.bool true)), none⟩])
  .ret))))),
  [.v 4, .v 5, .v 6]⟩
def ir_spec_l1Has : IFun := ⟨[0, 1, 4, 6, 7, 8, 9, 10, 15],
  (.seq (.region false [] [⟨some 2, .mov (.c (.bool false)), none⟩])
  (.seq (.seq (.region false [] [⟨some 4, .mov (.v 0), none⟩, ⟨some 5, .len false (.v 4), none⟩, ⟨some 6, .mov (.c (.int .i64 0)), none⟩])
  (.block 0 (.loop [false, true, false, false, true, true, true, false, false] (.seq (.region false [] [⟨some 7, .bin false .lss (.v 6) (.v 5), none⟩])
  (.seq (.cond (.v 7) .skip (.exit 0))
  (.seq (.block 1 (.seq (.region false [] [⟨none, .iaddr 1 (.v 4) (.v 6), none⟩, ⟨none, .load false 1 (.r 0), none⟩, ⟨some 3, .mov (.r 1), none⟩])
  (.seq (.region false [] [⟨none, .mov (.v 3), none⟩, ⟨none, .mov (.v 1), none⟩, ⟨some 8, .bin false .eql (.r 0) (.r 1), none⟩])
  (.cond (.v 8) (.seq (.region false [] [⟨some 2, .mov (.c (.bool true)), none⟩])
  .ret) .skip))))
  (.region false [] [⟨none, .bin false .add (.v 6) (.c (.int .i64 1)), none⟩, ⟨some 6, .mov (.r 0), none⟩])))))))
  (.seq (.region false [] [⟨some 2, .mov (.c (.bool false)), none⟩])
  .ret))),
  [.v 2]⟩
def ir_spec_GoodFlow : IFun := ⟨[0, 1, 2, 3, 4, 5, 7, 44, 47, 48, 49, 50, 78],
  (.seq (.region false [] [⟨some 1, .box t_impl_Flow 4 (.v 0), none⟩, ⟨some 2, .mov (.c (.bool false)), none⟩])
  (.seq (.region false [] [⟨none, .faddr 0 (.v 1), none⟩, ⟨none, .load true 2 (.r 0), none⟩, ⟨none, .faddr 2 (.v 1), none⟩, ⟨none, .load false 1 (.r 2), none⟩, ⟨none, .faddr 3 (.v 1), none⟩, ⟨none, .load false 1 (.r 4), none⟩, ⟨none, .call false f_spec_OnWay [(.r 1), (.r 3), (.r 5)], none⟩, ⟨none, .mov (.r 6), none⟩, ⟨none, .extract (.r 7) 0, none⟩, ⟨none, .extract (.r 7) 1, none⟩, ⟨none, .extract (.r 7) 2, none⟩, ⟨some 3, .mov (.r 8), none⟩, ⟨some 4, .mov (.r 9), none⟩, ⟨some 5, .mov (.r 10), none⟩])
  (.seq (.seq (.region false [] [⟨none, .mov (.v 5), none⟩, ⟨none, .not (.r 0), none⟩, ⟨none, .mov (.r 1), none⟩, ⟨none, .faddr 2 (.v 1), some (2, false)⟩, ⟨none, .load false 1 (.r 3), some (2, false)⟩, ⟨none, .faddr 3 (.v 1), some (2, false)⟩, ⟨none, .load false 1 (.r 5), some (2, false)⟩, ⟨none, .bin false .eql (.r 4) (.r 6), some (2, false)⟩, ⟨none, .pick (.r 2) (.c (.bool true)) (.r 7), none⟩, ⟨none, .mov (.r 8), none⟩, ⟨none, .mov (.v 3), some (9, false)⟩, ⟨none, .len false (.r 10), some (9, false)⟩, ⟨none, .faddr 0 (.v 1), some (9, false)⟩, ⟨none, .faddr 0 (.r 12), some (9, false)⟩, ⟨none, .load false 1 (.r 13), some (9, false)⟩, ⟨none, .bin false .neq (.r 11) (.r 14), some (9, false)⟩, ⟨none, .pick (.r 9) (.c (.bool true)) (.r 15), none⟩, ⟨none, .mov (.r 16), none⟩, ⟨none, .mov (.v 4), some (17, false)⟩, ⟨none, .len false (.r 18), some (17, false)⟩, ⟨none, .faddr 0 (.v 1), some (17, false)⟩, ⟨none, .faddr 1 (.r 20), some (17, false)⟩, ⟨none, .load false 1 (.r 21), some (17, false)⟩, ⟨none, .len false (.r 22), some (17, false)⟩, ⟨none, .bin false .neq (.r 19) (.r 23), some (17, false)⟩, ⟨some 7, .pick (.r 17) (.c (.bool true)) (.r 24), none⟩])
  (.cond (.v 7) (.seq (.region false [] [⟨some 2, .mov (.c (.bool false)), none⟩])
  .ret) .skip))
  (.seq (.seq (.region false [] [⟨none, .faddr 0 (.v 1), none⟩, ⟨none, .faddr 1 (.r 0), none⟩, ⟨some 8, .load false 1 (.r 1), none⟩, ⟨some 9, .len false (.v 8), none⟩, ⟨some 10, .mov (.c (.int .i64 0)), none⟩])
  (.block 0 (.loop [false, true, false, false, false, false, false, false, true, true, true, false, false] (.seq (.region false [] [⟨some 11, .bin false .lss (.v 10) (.v 9), none⟩])
  (.seq (.cond (.v 11) .skip (.exit 0))
  (.seq (.block 1 (.seq (.region false [] [⟨none, .iaddr 3 (.v 8) (.v 10), none⟩, ⟨none, .load true 3 (.r 0), none⟩, ⟨some 6, .alloc t_impl_Trans [(.nil true 1), (.nil true 1), (.nil true 1)], none⟩, ⟨none, .store 3 (.v 6) (.r 1), none⟩])
  (.seq (.region false [] [⟨none, .faddr 1 (.v 6), none⟩, ⟨none, .load false 1 (.r 0), none⟩, ⟨none, .faddr 2 (.v 1), none⟩, ⟨none, .load false 1 (.r 2), none⟩, ⟨none, .call false f_spec_l1Has [(.r 1), (.r 3)], none⟩, ⟨none, .mov (.r 4), none⟩, ⟨none, .faddr 0 (.v 6), some (5, false)⟩, ⟨none, .load false 1 (.r 6), some (5, false)⟩, ⟨none, .faddr 3 (.v 1), some (5, false)⟩, ⟨none, .load false 1 (.r 8), some (5, false)⟩, ⟨none, .call false f_spec_l1Has [(.r 7), (.r 9)], some (5, false)⟩, ⟨none, .pick (.r 5) (.c (.bool true)) (.r 10), none⟩, ⟨none, .mov (.r 11), none⟩, ⟨none, .faddr 2 (.v 6), some (12, false)⟩, ⟨none, .load false 1 (.r 13), some (12, false)⟩, ⟨none, .faddr 2 (.v 1), some (12, false)⟩, ⟨none, .load false 1 (.r 15), some (12, false)⟩, ⟨none, .call false f_spec_l1Has [(.r 14), (.r 16)], some (12, false)⟩, ⟨none, .pick (.r 12) (.c (.bool true)) (.r 17), none⟩, ⟨none, .mov (.r 18), none⟩, ⟨none, .faddr 2 (.v 6), some (19, false)⟩, ⟨none, .load false 1 (.r 20), some (19, false)⟩, ⟨none, .faddr 3 (.v 1), some (19, false)⟩, ⟨none, .load false 1 (.r 22), some (19, false)⟩, ⟨none, .call false f_spec_l1Has [(.r 21), (.r 23)], some (19, false)⟩, ⟨some 12, .pick (.r 19) (.c (.bool true)) (.r 24), none⟩])
  (.cond (.v 12) (.seq (.region false [] [⟨some 2, .mov (.c (.bool false)), none⟩])
  .ret) .skip))))
  (.region false [] [⟨none, .bin false .add (.v 10) (.c (.int .i64 1)), none⟩, ⟨some 10, .mov (.r 0), none⟩])))))))
  (.seq (.region false [] [⟨some 2, .mov (.c (.bool true)), none⟩])
  .ret))))),
  [.v 2]⟩
def ir_spec_TreeFlow : IFun := ⟨[0, 2, 3, 4, 5, 6, 9, 27],
  (.seq (.region false [] [⟨some 1, .alloc t_impl_Flow [(.int .i64 0), (.nil false 3), (.int .i64 0), (.int .i64 0)], none⟩, ⟨some 2, .nilrow t_int true 1, none⟩, ⟨some 3, .mov (.c (.bool false)), none⟩])
  (.seq (.seq (.region false [] [⟨none, .mov (.v 0), none⟩, ⟨none, .call false f_spec_l11Good [(.r 0)], none⟩, ⟨some 6, .not (.r 1), none⟩])
  (.cond (.v 6) (.seq (.region false [] [⟨none, .build [(.int .i64 0), (.nil false 3), (.int .i64 0), (.int .i64 0)] [], none⟩, ⟨none, .store 4 (.v 1) (.r 0), none⟩, ⟨some 2, .nilrow t_int true 1, none⟩, ⟨some 3, .mov (.c (.bool false)), none⟩])
  .ret) .skip))
  (.seq (.region false [] [⟨none, .build [(.int .i64 0), (.nil false 3)] [(0, 1, (.c (.int .i64 2)))], none⟩, ⟨none, .build [(.int .i64 0), (.nil false 3), (.nil true 1)] [(0, 2, (.r 0))], none⟩, ⟨none, .box t_spec_l11Build 3 (.r 1), none⟩, ⟨some 4, .mov (.r 2), none⟩])
  (.seq (.region false [] [⟨none, .mov (.v 4), none⟩, ⟨none, .mov (.v 0), none⟩, ⟨none, .mov (.v 0), none⟩, ⟨none, .len false (.r 2), none⟩, ⟨none, .bin false .sub (.r 3) (.c (.int .i64 1)), none⟩, ⟨none, .callm f_spec_l11Build_part [(.r 0), (.r 1), (.r 4), (.c (.int .i64 0)), (.c (.int .i64 1))], none⟩])
  (.seq (.region false [] [⟨none, .mov (.v 4), none⟩, ⟨none, .ncheck (.r 0), none⟩, ⟨none, .faddr 0 (.r 1), none⟩, ⟨none, .load true 2 (.r 2), none⟩, ⟨none, .build [(.int .i64 0), (.nil false 3), (.int .i64 0), (.int .i64 0)] [(0, 2, (.r 3)), (2, 1, (.c (.int .i64 0))), (3, 1, (.c (.int .i64 1)))], none⟩, ⟨some 5, .alloc t_impl_Flow [(.int .i64 0), (.nil false 3), (.int .i64 0), (.int .i64 0)], none⟩, ⟨none, .store 4 (.v 5) (.r 4), none⟩])
  (.seq (.seq (.region false [] [⟨none, .load true 4 (.v 5), none⟩, ⟨none, .call false f_spec_GoodFlow [(.r 0)], none⟩, ⟨some 7, .not (.r 1), none⟩])
  (.cond (.v 7) (.seq (.region false [] [⟨none, .build [(.int .i64 0), (.nil false 3), (.int .i64 0), (.int .i64 0)] [], none⟩, ⟨none, .store 4 (.v 1) (.r 0), none⟩, ⟨some 2, .nilrow t_int true 1, none⟩, ⟨some 3, .mov (.c (.bool false)), none⟩])
  .ret) .skip))
  (.seq (.region true [(5, 4)] [⟨none, .load true 4 (.v 5), none⟩, ⟨none, .mov (.v 4), none⟩, ⟨none, .ncheck (.r 1), none⟩, ⟨none, .faddr 2 (.r 2), none⟩, ⟨none, .load false 1 (.r 3), none⟩, ⟨none, .store 4 (.v 1) (.r 0), none⟩, ⟨some 2, .mov (.r 4), none⟩, ⟨some 3, .mov (.c (.bool true)), none⟩])
  .ret))))))),
  [.cell true 4 1, .v 2, .v 3]⟩
def ir_impl_within : IFun := ⟨[0, 1, 2, 6],
  (.seq (.region false [] [⟨some 3, .mov (.c (.bool false)), none⟩])
  (.seq (.region false [] [⟨none, .mov (.v 0), none⟩, ⟨none, .mov (.v 1), none⟩, ⟨none, .bin false .geq (.r 0) (.r 1), none⟩, ⟨none, .mov (.r 2), none⟩, ⟨none, .mov (.v 0), some (3, true)⟩, ⟨none, .mov (.v 2), some (3, true)⟩, ⟨none, .bin false .leq (.r 4) (.r 5), some (3, true)⟩, ⟨none, .pick (.r 3) (.r 6) (.c (.bool false)), none⟩, ⟨some 3, .mov (.r 7), none⟩])
  .ret)),
  [.v 3]⟩
def ir_impl_isTree : IFun := ⟨[0, 2, 3, 5, 6, 7, 8, 9, 12, 23],
  (.seq (.region false [] [⟨some 1, .mov (.c (.bool false)), none⟩])
  (.seq (.region false [] [⟨some 2, .mov (.c (.int .i64 0)), none⟩])
  (.seq (.seq (.region false [] [⟨some 4, .mov (.v 0), none⟩, ⟨some 5, .len false (.v 4), none⟩, ⟨some 6, .mov (.c (.int .i64 0)), none⟩])
  (.block 0 (.loop [true, false, true, false, true, true, true, false, false, false] (.seq (.region false [] [⟨some 7, .bin false .lss (.v 6) (.v 5), none⟩])
  (.seq (.cond (.v 7) .skip (.exit 0))
  (.seq (.block 1 (.seq (.region false [] [⟨none, .iaddr 2 (.v 4) (.v 6), none⟩, ⟨none, .load true 2 (.r 0), none⟩, ⟨some 3, .alloc t_impl_Branch [(.int .i64 0), (.int .i64 0)], none⟩, ⟨none, .store 2 (.v 3) (.r 1), none⟩])
  (.block 2 (.seq (.region false [] [⟨none, .faddr 0 (.v 3), none⟩, ⟨none, .load false 1 (.r 0), none⟩, ⟨none, .bin false .eql (.r 1) (.c (.int .i64 1)), none⟩, ⟨none, .mov (.r 2), none⟩, ⟨none, .faddr 1 (.v 3), some (3, true)⟩, ⟨none, .load false 1 (.r 4), some (3, true)⟩, ⟨none, .call false f_impl_within [(.r 5), (.c (.int .i64 1)), (.c (.int .i64 9))], some (3, true)⟩, ⟨none, .pick (.r 3) (.r 6) (.c (.bool false)), none⟩, ⟨some 8, .mov (.r 7), none⟩])
  (.cond (.v 8) (.region false [] [⟨none, .mov (.v 2), none⟩, ⟨none, .bin false .add (.r 0) (.c (.int .i64 1)), none⟩, ⟨some 2, .mov (.r 1), none⟩]) (.seq (.region false [] [⟨none, .faddr 0 (.v 3), none⟩, ⟨none, .load false 1 (.r 0), none⟩, ⟨none, .call false f_impl_within [(.r 1), (.c (.int .i64 2)), (.c (.int .i64 5))], none⟩, ⟨none, .mov (.r 2), none⟩, ⟨none, .faddr 1 (.v 3), some (3, true)⟩, ⟨none, .load false 1 (.r 4), some (3, true)⟩, ⟨none, .bin false .eql (.r 5) (.c (.int .i64 0)), some (3, true)⟩, ⟨none, .pick (.r 3) (.r 6) (.c (.bool false)), none⟩, ⟨none, .mov (.r 7), none⟩, ⟨none, .mov (.v 2), some (8, true)⟩, ⟨none, .bin false .gtr (.r 9) (.c (.int .i64 1)), some (8, true)⟩, ⟨none, .pick (.r 8) (.r 10) (.c (.bool false)), none⟩, ⟨some 9, .mov (.r 11), none⟩])
  (.cond (.v 9) (.region false [] [⟨none, .mov (.v 2), none⟩, ⟨none, .bin false .sub (.r 0) (.c (.int .i64 1)), none⟩, ⟨some 2, .mov (.r 1), none⟩]) (.seq (.region false [] [⟨some 1, .mov (.c (.bool false)), none⟩])
  .ret))))))))
  (.region false [] [⟨none, .bin false .add (.v 6) (.c (.int .i64 1)), none⟩, ⟨some 6, .mov (.r 0), none⟩])))))))
  (.seq (.region false [] [⟨none, .mov (.v 2), none⟩, ⟨none, .bin false .eql (.r 0) (.c (.int .i64 1)), none⟩, ⟨none, .mov (.r 1), none⟩, ⟨none, .mov (.v 0), some (2, true)⟩, ⟨none, .len false (.r 3), some (2, true)⟩, ⟨none, .bin false .leq (.r 4) (.c (.int .i64 15)), some (2, true)⟩, ⟨none, .pick (.r 2) (.r 5) (.c (.bool false)), none⟩, ⟨some 1, .mov (.r 6), none⟩])
  .ret)))),
  [.v 1]⟩
def ir_impl_parsed : IFun := ⟨[0, 2, 3, 4, 5, 6, 7, 11, 12, 13, 14, 27],
  (.seq (.region false [] [⟨some 1, .nilrow t_impl_treeNode true 4, none⟩])
  (.seq (.region false [] [⟨none, .mov (.v 0), none⟩, ⟨none, .len false (.r 0), none⟩, ⟨none, .mk t_impl_treeNode true 4 (.agg [(.int .i64 0), (.int .i64 0), (.int .i64 0), (.int .i64 0)]) (.r 1), none⟩, ⟨some 2, .mov (.r 2), none⟩])
  (.seq (.region false [] [⟨some 3, .nilrow t_int true 1, none⟩])
  (.seq (.seq (.region false [] [⟨some 7, .mov (.v 0), none⟩, ⟨some 8, .len false (.v 7), none⟩, ⟨some 9, .mov (.c (.int .i64 0)), none⟩])
  (.block 0 (.loop [false, false, true, true, false, false, false, true, true, true, false, false] (.seq (.region false [] [⟨some 10, .bin false .lss (.v 9) (.v 8), none⟩])
  (.seq (.cond (.v 10) .skip (.exit 0))
  (.seq (.block 1 (.seq (.region false [] [⟨none, .mov (.v 9), none⟩, ⟨none, .iaddr 2 (.v 7) (.v 9), none⟩, ⟨none, .load true 2 (.r 1), none⟩, ⟨some 5, .alloc t_impl_Branch [(.int .i64 0), (.int .i64 0)], none⟩, ⟨some 4, .mov (.r 0), none⟩, ⟨none, .store 2 (.v 5) (.r 2), none⟩])
  (.seq (.region false [] [⟨none, .mov (.v 2), none⟩, ⟨none, .mov (.v 4), none⟩, ⟨none, .load true 2 (.v 5), none⟩, ⟨none, .iaddr 4 (.r 0) (.r 1), none⟩, ⟨none, .faddr 0 (.r 3), none⟩, ⟨none, .store 2 (.r 4) (.r 2), none⟩])
  (.seq (.seq (.region false [] [⟨none, .mov (.v 3), none⟩, ⟨none, .len false (.r 0), none⟩, ⟨some 6, .mov (.r 1), none⟩])
  (.seq (.region false [] [⟨none, .faddr 0 (.v 5), none⟩, ⟨none, .load false 1 (.r 0), none⟩, ⟨some 11, .bin false .neq (.r 1) (.c (.int .i64 1)), none⟩])
  (.cond (.v 11) (.seq (.region true [] [⟨none, .mov (.v 2), none⟩, ⟨none, .mov (.v 4), none⟩, ⟨none, .mov (.v 2), none⟩, ⟨none, .mov (.v 4), none⟩, ⟨none, .mov (.v 3), none⟩, ⟨none, .mov (.v 6), none⟩, ⟨none, .bin false .sub (.r 5) (.c (.int .i64 2)), none⟩, ⟨none, .iaddr 1 (.r 4) (.r 6), none⟩, ⟨none, .load false 1 (.r 7), none⟩, ⟨none, .mov (.v 3), none⟩, ⟨none, .mov (.v 6), none⟩, ⟨none, .bin false .sub (.r 10) (.c (.int .i64 1)), none⟩, ⟨none, .iaddr 1 (.r 9) (.r 11), none⟩, ⟨none, .load false 1 (.r 12), none⟩, ⟨none, .iaddr 4 (.r 0) (.r 1), none⟩, ⟨none, .faddr 2 (.r 14), none⟩, ⟨none, .store 1 (.r 15) (.r 8), none⟩, ⟨none, .iaddr 4 (.r 2) (.r 3), none⟩, ⟨none, .faddr 3 (.r 17), none⟩, ⟨none, .store 1 (.r 18) (.r 13), none⟩])
  (.region false [] [⟨none, .mov (.v 3), none⟩, ⟨none, .mov (.v 6), none⟩, ⟨none, .bin false .sub (.r 1) (.c (.int .i64 2)), none⟩, ⟨none, .slice 1 (.r 0) none (some (.r 2)), none⟩, ⟨some 3, .mov (.r 3), none⟩])) .skip)))
  (.region false [] [⟨none, .mov (.v 3), none⟩, ⟨none, .mov (.v 4), none⟩, ⟨none, .bslice false t_int true 1 [(.r 1)], none⟩, ⟨none, .append t_int true 1 (.r 0) (.r 2), none⟩, ⟨some 3, .mov (.r 3), none⟩])))))
  (.region false [] [⟨none, .bin false .add (.v 9) (.c (.int .i64 1)), none⟩, ⟨some 9, .mov (.r 0), none⟩])))))))
  (.seq (.region false [] [⟨none, .mov (.v 2), none⟩, ⟨some 1, .mov (.r 0), none⟩])
  .ret))))),
  [.v 1]⟩
def ir_impl_treeBuild_trans : IFun := ⟨[0, 1, 2, 3],
  (.seq (.region false [] [⟨none, .mov (.v 0), none⟩, ⟨none, .mov (.v 0), none⟩, ⟨none, .ncheck (.r 1), none⟩, ⟨none, .faddr 1 (.r 2), none⟩, ⟨none, .faddr 1 (.r 3), none⟩, ⟨none, .load false 1 (.r 4), none⟩, ⟨none, .mov (.v 2), none⟩, ⟨none, .mov (.v 3), none⟩, ⟨none, .build [(.nil true 1), (.nil true 1), (.nil true 1)] [(0, 1, (.r 6)), (1, 1, (.r 7))], none⟩, ⟨none, .bsl t_impl_Trans 3 [(.r 8)], none⟩, ⟨none, .appl t_impl_Trans false 3 (.r 5) (.r 9), none⟩, ⟨none, .ncheck (.r 0), none⟩, ⟨none, .faddr 1 (.r 11), none⟩, ⟨none, .faddr 1 (.r 12), none⟩, ⟨none, .stl 1 (.r 13) (.r 10), none⟩])
  (.region false [] [⟨none, .mov (.v 0), none⟩, ⟨none, .mov (.v 0), none⟩, ⟨none, .ncheck (.r 1), none⟩, ⟨none, .faddr 3 (.r 2), none⟩, ⟨none, .load false 1 (.r 3), none⟩, ⟨none, .mov (.v 1), none⟩, ⟨none, .bslice false t_int true 1 [(.r 5)], none⟩, ⟨none, .append t_int true 1 (.r 4) (.r 6), none⟩, ⟨none, .ncheck (.r 0), none⟩, ⟨none, .faddr 3 (.r 8), none⟩, ⟨none, .stl 1 (.r 9) (.r 7), none⟩])),
  []⟩
def ir_impl_treeBuild_place : IFun := ⟨[0, 2],
  (.seq (.region false [] [⟨some 1, .mov (.c (.int .i64 0)), none⟩])
  (.seq (.region false [] [⟨none, .mov (.v 0), none⟩, ⟨none, .ncheck (.r 0), none⟩, ⟨none, .faddr 1 (.r 1), none⟩, ⟨none, .faddr 0 (.r 2), none⟩, ⟨none, .load false 1 (.r 3), none⟩, ⟨none, .bin false .add (.r 4) (.c (.int .i64 1)), none⟩, ⟨none, .ncheck (.r 0), none⟩, ⟨none, .faddr 1 (.r 6), none⟩, ⟨none, .faddr 0 (.r 7), none⟩, ⟨none, .stl 1 (.r 8) (.r 5), none⟩])
  (.seq (.region false [] [⟨none, .mov (.v 0), none⟩, ⟨none, .ncheck (.r 0), none⟩, ⟨none, .faddr 1 (.r 1), none⟩, ⟨none, .faddr 0 (.r 2), none⟩, ⟨none, .load false 1 (.r 3), none⟩, ⟨none, .bin false .sub (.r 4) (.c (.int .i64 1)), none⟩, ⟨some 1, .mov (.r 5), none⟩])
  .ret))),
  [.v 1]⟩
def ir_impl_treeBuild_build : IFun := ⟨[0, 1, 2, 3, 8, 9, 10, 11, 12, 13, 14, 15, 25, 26, 37, 53, 67, 103],
  (.seq (.region false [] [⟨none, .mov (.v 0), none⟩, ⟨none, .ncheck (.r 0), none⟩, ⟨none, .faddr 0 (.r 1), none⟩, ⟨none, .load false 1 (.r 2), none⟩, ⟨none, .mov (.v 1), none⟩, ⟨none, .iaddr 4 (.r 3) (.r 4), none⟩, ⟨none, .load true 4 (.r 5), none⟩, ⟨some 4, .alloc t_impl_treeNode [(.int .i64 0), (.int .i64 0), (.int .i64 0), (.int .i64 0)], none⟩, ⟨none, .stl 4 (.v 4) (.r 6), none⟩])
  (.seq (.region false [] [⟨none, .faddr 0 (.v 4), none⟩, ⟨none, .faddr 0 (.r 0), none⟩, ⟨some 12, .load false 1 (.r 1), none⟩])
  (.block 0 (.seq (.region false [] [⟨none, .bin false .eql (.v 12) (.c (.int .i64 1)), none⟩, ⟨some 13, .mov (.r 0), none⟩])
  (.cond (.v 13) (.region false [] [⟨none, .mov (.v 0), none⟩, ⟨none, .faddr 0 (.v 4), none⟩, ⟨none, .faddr 1 (.r 1), none⟩, ⟨none, .load false 1 (.r 2), none⟩, ⟨none, .mov (.v 2), none⟩, ⟨none, .bslice false t_int true 1 [(.r 4)], none⟩, ⟨none, .mov (.v 3), none⟩, ⟨none, .bslice false t_int true 1 [(.r 6)], none⟩, ⟨none, .callm f_impl_treeBuild_trans [(.r 0), (.r 3), (.r 5), (.r 7)], none⟩]) (.seq (.region false [] [⟨none, .bin false .eql (.v 12) (.c (.int .i64 2)), none⟩, ⟨some 14, .mov (.r 0), none⟩])
  (.cond (.v 14) (.seq (.region false [] [⟨none, .mov (.v 0), none⟩, ⟨none, .callm f_impl_treeBuild_place [(.r 0)], none⟩, ⟨some 5, .mov (.r 1), none⟩])
  (.seq (.region false [] [⟨none, .mov (.v 0), none⟩, ⟨none, .faddr 2 (.v 4), none⟩, ⟨none, .load false 1 (.r 1), none⟩, ⟨none, .mov (.v 2), none⟩, ⟨none, .mov (.v 5), none⟩, ⟨none, .callm f_impl_treeBuild_build [(.r 0), (.r 2), (.r 3), (.r 4)], none⟩])
  (.region false [] [⟨none, .mov (.v 0), none⟩, ⟨none, .faddr 3 (.v 4), none⟩, ⟨none, .load false 1 (.r 1), none⟩, ⟨none, .mov (.v 5), none⟩, ⟨none, .mov (.v 3), none⟩, ⟨none, .callm f_impl_treeBuild_build [(.r 0), (.r 2), (.r 3), (.r 4)], none⟩]))) (.seq (.region false [] [⟨none, .bin false .eql (.v 12) (.c (.int .i64 3)), none⟩, ⟨some 15, .mov (.r 0), none⟩])
  (.cond (.v 15) (.seq (.region false [] [⟨none, .mov (.v 0), none⟩, ⟨none, .faddr 2 (.v 4), none⟩, ⟨none, .load false 1 (.r 1), none⟩, ⟨none, .mov (.v 2), none⟩, ⟨none, .mov (.v 3), none⟩, ⟨none, .callm f_impl_treeBuild_build [(.r 0), (.r 2), (.r 3), (.r 4)], none⟩])
  (.region false [] [⟨none, .mov (.v 0), none⟩, ⟨none, .faddr 3 (.v 4), none⟩, ⟨none, .load false 1 (.r 1), none⟩, ⟨none, .mov (.v 2), none⟩, ⟨none, .mov (.v 3), none⟩, ⟨none, .callm f_impl_treeBuild_build [(.r 0), (.r 2), (.r 3), (.r 4)], none⟩])) (.seq (.region false [] [⟨none, .bin false .eql (.v 12) (.c (.int .i64 4)), none⟩, ⟨some 16, .mov (.r 0), none⟩])
  (.cond (.v 16) (.seq (.region false [] [⟨none, .mov (.v 0), none⟩, ⟨none, .callm f_impl_treeBuild_place [(.r 0)], none⟩, ⟨none, .mov (.v 0), none⟩, ⟨none, .callm f_impl_treeBuild_place [(.r 2)], none⟩, ⟨none, .mov (.v 0), none⟩, ⟨none, .callm f_impl_treeBuild_place [(.r 4)], none⟩, ⟨none, .mov (.v 0), none⟩, ⟨none, .callm f_impl_treeBuild_place [(.r 6)], none⟩, ⟨some 6, .mov (.r 1), none⟩, ⟨some 7, .mov (.r 3), none⟩, ⟨some 8, .mov (.r 5), none⟩, ⟨some 9, .mov (.r 7), none⟩])
  (.seq (.region false [] [⟨none, .mov (.v 0), none⟩, ⟨none, .mov (.v 2), none⟩, ⟨none, .bslice false t_int true 1 [(.r 1)], none⟩, ⟨none, .mov (.v 6), none⟩, ⟨none, .mov (.v 7), none⟩, ⟨none, .bslice false t_int true 1 [(.r 3), (.r 4)], none⟩, ⟨none, .callm f_impl_treeBuild_trans [(.r 0), (.c (.int .i64 0)), (.r 2), (.r 5)], none⟩])
  (.seq (.region false [] [⟨none, .mov (.v 0), none⟩, ⟨none, .mov (.v 8), none⟩, ⟨none, .mov (.v 9), none⟩, ⟨none, .bslice false t_int true 1 [(.r 1), (.r 2)], none⟩, ⟨none, .mov (.v 3), none⟩, ⟨none, .bslice false t_int true 1 [(.r 4)], none⟩, ⟨none, .callm f_impl_treeBuild_trans [(.r 0), (.c (.int .i64 0)), (.r 3), (.r 5)], none⟩])
  (.seq (.region false [] [⟨none, .mov (.v 0), none⟩, ⟨none, .faddr 2 (.v 4), none⟩, ⟨none, .load false 1 (.r 1), none⟩, ⟨none, .mov (.v 6), none⟩, ⟨none, .mov (.v 8), none⟩, ⟨none, .callm f_impl_treeBuild_build [(.r 0), (.r 2), (.r 3), (.r 4)], none⟩])
  (.region false [] [⟨none, .mov (.v 0), none⟩, ⟨none, .faddr 3 (.v 4), none⟩, ⟨none, .load false 1 (.r 1), none⟩, ⟨none, .mov (.v 7), none⟩, ⟨none, .mov (.v 9), none⟩, ⟨none, .callm f_impl_treeBuild_build [(.r 0), (.r 2), (.r 3), (.r 4)], none⟩]))))) (.seq (.region false [] [⟨none, .bin false .eql (.v 12) (.c (.int .i64 5)), none⟩, ⟨some 17, .mov (.r 0), none⟩])
  (.cond (.v 17) (.seq (.region false [] [⟨none, .mov (.v 0), none⟩, ⟨none, .callm f_impl_treeBuild_place [(.r 0)], none⟩, ⟨none, .mov (.v 0), none⟩, ⟨none, .callm f_impl_treeBuild_place [(.r 2)], none⟩, ⟨some 10, .mov (.r 1), none⟩, ⟨some 11, .mov (.r 3), none⟩])
  (.seq (.region false [] [⟨none, .mov (.v 0), none⟩, ⟨none, .mov (.v 2), none⟩, ⟨none, .bslice false t_int true 1 [(.r 1)], none⟩, ⟨none, .mov (.v 10), none⟩, ⟨none, .bslice false t_int true 1 [(.r 3)], none⟩, ⟨none, .callm f_impl_treeBuild_trans [(.r 0), (.c (.int .i64 0)), (.r 2), (.r 4)], none⟩])
  (.seq (.region false [] [⟨none, .mov (.v 0), none⟩, ⟨none, .mov (.v 11), none⟩, ⟨none, .bslice false t_int true 1 [(.r 1)], none⟩, ⟨none, .mov (.v 3), none⟩, ⟨none, .bslice false t_int true 1 [(.r 3)], none⟩, ⟨none, .callm f_impl_treeBuild_trans [(.r 0), (.c (.int .i64 0)), (.r 2), (.r 4)], none⟩])
  (.seq (.region false [] [⟨none, .mov (.v 0), none⟩, ⟨none, .faddr 2 (.v 4), none⟩, ⟨none, .load false 1 (.r 1), none⟩, ⟨none, .mov (.v 10), none⟩, ⟨none, .mov (.v 11), none⟩, ⟨none, .callm f_impl_treeBuild_build [(.r 0), (.r 2), (.r 3), (.r 4)], none⟩])
  (.region false [] [⟨none, .mov (.v 0), none⟩, ⟨none, .faddr 3 (.v 4), none⟩, ⟨none, .load false 1 (.r 1), none⟩, ⟨none, .mov (.v 11), none⟩, ⟨none, .mov (.v 10), none⟩, ⟨none, .callm f_impl_treeBuild_build [(.r 0), (.r 2), (.r 3), (.r 4)], none⟩]))))) .skip))))))))))))),
  []⟩
def ir_impl_increasing : IFun := ⟨[0, 2, 3, 7, 19],
  (.seq (.region false [] [⟨some 1, .mov (.c (.bool false)), none⟩])
  (.seq (.seq (.region false [] [⟨some 2, .mov (.c (.int .i64 1)), none⟩])
  (.block 0 (.loop [true, false, true, false, false] (.seq (.seq (.region false [] [⟨none, .mov (.v 2), none⟩, ⟨none, .mov (.v 0), none⟩, ⟨none, .len false (.r 1), none⟩, ⟨some 3, .bin false .lss (.r 0) (.r 2), none⟩])
  (.cond (.v 3) .skip (.exit 0)))
  (.seq (.block 1 (.seq (.region true [] [⟨none, .mov (.v 0), none⟩, ⟨none, .mov (.v 2), none⟩, ⟨none, .bin false .sub (.r 1) (.c (.int .i64 1)), none⟩, ⟨none, .iaddr 1 (.r 0) (.r 2), none⟩, ⟨none, .load false 1 (.r 3), none⟩, ⟨none, .mov (.v 0), none⟩, ⟨none, .mov (.v 2), none⟩, ⟨none, .iaddr 1 (.r 5) (.r 6), none⟩, ⟨none, .load false 1 (.r 7), none⟩, ⟨some 4, .bin false .geq (.r 4) (.r 8), none⟩])
  (.cond (.v 4) (.seq (.region false [] [⟨some 1, .mov (.c (.bool false)), none⟩])
  .ret) .skip)))
  (.region false [] [⟨none, .mov (.v 2), none⟩, ⟨none, .bin false .add (.r 0) (.c (.int .i64 1)), none⟩, ⟨some 2, .mov (.r 1), none⟩]))))))
  (.seq (.region false [] [⟨some 1, .mov (.c (.bool true)), none⟩])
  .ret))),
  [.v 1]⟩
def ir_impl_allWithin : IFun := ⟨[0, 1, 2, 6, 8, 9, 10, 11, 12, 19],
  (.seq (.region false [] [⟨some 3, .mov (.c (.bool false)), none⟩])
  (.seq (.seq (.region false [] [⟨some 5, .mov (.v 0), none⟩, ⟨some 6, .len false (.v 5), none⟩, ⟨some 7, .mov (.c (.int .i64 0)), none⟩])
  (.block 0 (.loop [false, true, true, false, false, true, true, true, false, false] (.seq (.region false [] [⟨some 8, .bin false .lss (.v 7) (.v 6), none⟩])
  (.seq (.cond (.v 8) .skip (.exit 0))
  (.seq (.block 1 (.seq (.region false [] [⟨none, .iaddr 1 (.v 5) (.v 7), none⟩, ⟨none, .load false 1 (.r 0), none⟩, ⟨some 4, .mov (.r 1), none⟩])
  (.seq (.region false [] [⟨none, .mov (.v 4), none⟩, ⟨none, .mov (.v 1), none⟩, ⟨none, .mov (.v 2), none⟩, ⟨none, .call false f_impl_within [(.r 0), (.r 1), (.r 2)], none⟩, ⟨some 9, .not (.r 3), none⟩])
  (.cond (.v 9) (.seq (.region false [] [⟨some 3, .mov (.c (.bool false)), none⟩])
  .ret) .skip))))
  (.region false [] [⟨none, .bin false .add (.v 7) (.c (.int .i64 1)), none⟩, ⟨some 7, .mov (.r 0), none⟩])))))))
  (.seq (.region false [] [⟨some 3, .mov (.c (.bool true)), none⟩])
  .ret))),
  [.v 3]⟩
def ir_impl_arePlaces : IFun := ⟨[0, 1, 2, 4],
  (.seq (.region false [] [⟨some 2, .box t_impl_Net 2 (.v 0), none⟩, ⟨some 3, .mov (.c (.bool false)), none⟩])
  (.seq (.region false [] [⟨none, .mov (.v 1), none⟩, ⟨none, .call false f_impl_increasing [(.r 0)], none⟩, ⟨none, .mov (.r 1), none⟩, ⟨none, .mov (.v 1), some (2, true)⟩, ⟨none, .faddr 0 (.v 2), some (2, true)⟩, ⟨none, .load false 1 (.r 4), some (2, true)⟩, ⟨none, .bin false .sub (.r 5) (.c (.int .i64 1)), some (2, true)⟩, ⟨none, .call false f_impl_allWithin [(.r 3), (.c (.int .i64 0)), (.r 6)], some (2, true)⟩, ⟨none, .pick (.r 2) (.r 7) (.c (.bool false)), none⟩, ⟨some 3, .mov (.r 8), none⟩])
  .ret)),
  [.v 3]⟩
def ir_impl_GoodNet_1 : IFun := ⟨[0, 1, 2, 3],
  (.seq (.region false [] [⟨some 2, .box t_impl_Trans 3 (.v 0), none⟩, ⟨some 3, .mov (.c (.bool false)), none⟩])
  (.seq (.region false [] [⟨none, .faddr 0 (.v 2), none⟩, ⟨none, .load false 1 (.r 0), none⟩, ⟨none, .len false (.r 1), none⟩, ⟨none, .bin false .eql (.r 2) (.c (.int .i64 0)), none⟩, ⟨none, .mov (.r 3), none⟩, ⟨none, .load true 2 (.v 1), some (4, false)⟩, ⟨none, .faddr 0 (.v 2), some (4, false)⟩, ⟨none, .load false 1 (.r 6), some (4, false)⟩, ⟨none, .call false f_impl_arePlaces [(.r 5), (.r 7)], some (4, false)⟩, ⟨none, .not (.r 8), some (4, false)⟩, ⟨none, .pick (.r 4) (.c (.bool true)) (.r 9), none⟩, ⟨none, .mov (.r 10), none⟩, ⟨none, .load true 2 (.v 1), some (11, false)⟩, ⟨none, .faddr 1 (.v 2), some (11, false)⟩, ⟨none, .load false 1 (.r 13), some (11, false)⟩, ⟨none, .call false f_impl_arePlaces [(.r 12), (.r 14)], some (11, false)⟩, ⟨none, .not (.r 15), some (11, false)⟩, ⟨none, .pick (.r 11) (.c (.bool true)) (.r 16), none⟩, ⟨none, .mov (.r 17), none⟩, ⟨none, .load true 2 (.v 1), some (18, false)⟩, ⟨none, .faddr 2 (.v 2), some (18, false)⟩, ⟨none, .load false 1 (.r 20), some (18, false)⟩, ⟨none, .call false f_impl_arePlaces [(.r 19), (.r 21)], some (18, false)⟩, ⟨none, .not (.r 22), some (18, false)⟩, ⟨none, .pick (.r 18) (.c (.bool true)) (.r 23), none⟩, ⟨some 3, .mov (.r 24), none⟩])
  .ret)),
  [.v 3]⟩
def ir_slices_IndexFunc_sl_impl_Trans_impl_Trans : IFun := ⟨[0, 1, 4, 5, 7, 8, 9, 16],
  (.seq (.region false [] [⟨some 2, .mov (.c (.int .i64 0)), none⟩])
  (.seq (.seq (.region false [] [⟨none, .mov (.v 0), none⟩, ⟨some 4, .len false (.r 0), none⟩, ⟨some 5, .mov (.c (.int .i64 0)), none⟩])
  (.block 0 (.loop [true, true, false, false, true, true, false, false] (.seq (.region false [] [⟨some 6, .bin false .lss (.v 5) (.v 4), none⟩])
  (.seq (.cond (.v 6) .skip (.exit 0))
  (.seq (.block 1 (.seq (.region false [] [⟨none, .mov (.v 5), none⟩, ⟨some 3, .mov (.r 0), none⟩])
  (.seq (.region false [] [⟨none, .mov (.v 1), none⟩, ⟨none, .mov (.v 0), none⟩, ⟨none, .mov (.v 3), none⟩, ⟨none, .iaddr 3 (.r 1) (.r 2), none⟩, ⟨none, .load true 3 (.r 3), none⟩, ⟨some 7, .callv false (.r 0) [(.r 4)], none⟩])
  (.cond (.v 7) (.seq (.region false [] [⟨none, .mov (.v 3), none⟩, ⟨some 2, .mov (.r 0), none⟩])
  .ret) .skip))))
  (.region false [] [⟨none, .bin false .add (.v 5) (.c (.int .i64 1)), none⟩, ⟨some 5, .mov (.r 0), none⟩])))))))
  (.seq (.region false [] [⟨some 2, .mov (.c (.int .i64 (-1))), none⟩])
  .ret))),
  [.v 2]⟩
def ir_slices_ContainsFunc_sl_impl_Trans_impl_Trans : IFun := ⟨[0, 1, 4],
  (.seq (.region false [] [⟨some 2, .mov (.c (.bool false)), none⟩])
  (.seq (.region false [] [⟨none, .mov (.v 0), none⟩, ⟨none, .mov (.v 1), none⟩, ⟨none, .call false f_slices_IndexFunc_sl_impl_Trans_impl_Trans [(.r 0), (.r 1)], none⟩, ⟨none, .bin false .geq (.r 2) (.c (.int .i64 0)), none⟩, ⟨some 2, .mov (.r 3), none⟩])
  .ret)),
  [.v 2]⟩
def ir_impl_GoodNet : IFun := ⟨[0, 1, 2],
  (.seq (.region false [] [⟨some 1, .box t_impl_Net 2 (.v 0), none⟩, ⟨some 2, .mov (.c (.bool false)), none⟩])
  (.seq (.region false [] [⟨none, .faddr 0 (.v 1), none⟩, ⟨none, .load false 1 (.r 0), none⟩, ⟨none, .call false f_impl_within [(.r 1), (.c (.int .i64 1)), (.c (.int .i64 16))], none⟩, ⟨none, .mov (.r 2), none⟩, ⟨none, .faddr 1 (.v 1), some (3, true)⟩, ⟨none, .load false 1 (.r 4), some (3, true)⟩, ⟨none, .len false (.r 5), some (3, true)⟩, ⟨none, .bin false .leq (.r 6) (.c (.int .i64 24)), some (3, true)⟩, ⟨none, .pick (.r 3) (.r 7) (.c (.bool false)), none⟩, ⟨none, .mov (.r 8), none⟩, ⟨none, .faddr 1 (.v 1), some (9, true)⟩, ⟨none, .load false 1 (.r 10), some (9, true)⟩, ⟨none, .mkfn f_impl_GoodNet_1 [(.v 1)], some (9, true)⟩, ⟨none, .call false f_slices_ContainsFunc_sl_impl_Trans_impl_Trans [(.r 11), (.r 12)], some (9, true)⟩, ⟨none, .not (.r 13), some (9, true)⟩, ⟨none, .pick (.r 9) (.r 14) (.c (.bool false)), none⟩, ⟨some 2, .mov (.r 15), none⟩])
  .ret)),
  [.v 2]⟩
def ir_slices_Index_sl_int_int : IFun := ⟨[0, 1, 4, 5, 7, 8, 9, 16],
  (.seq (.region false [] [⟨some 2, .mov (.c (.int .i64 0)), none⟩])
  (.seq (.seq (.region false [] [⟨none, .mov (.v 0), none⟩, ⟨some 4, .len false (.r 0), none⟩, ⟨some 5, .mov (.c (.int .i64 0)), none⟩])
  (.block 0 (.loop [true, true, false, false, true, true, false, false] (.seq (.region false [] [⟨some 6, .bin false .lss (.v 5) (.v 4), none⟩])
  (.seq (.cond (.v 6) .skip (.exit 0))
  (.seq (.block 1 (.seq (.region false [] [⟨none, .mov (.v 5), none⟩, ⟨some 3, .mov (.r 0), none⟩])
  (.seq (.region false [] [⟨none, .mov (.v 1), none⟩, ⟨none, .mov (.v 0), none⟩, ⟨none, .mov (.v 3), none⟩, ⟨none, .iaddr 1 (.r 1) (.r 2), none⟩, ⟨none, .load false 1 (.r 3), none⟩, ⟨some 7, .bin false .eql (.r 0) (.r 4), none⟩])
  (.cond (.v 7) (.seq (.region false [] [⟨none, .mov (.v 3), none⟩, ⟨some 2, .mov (.r 0), none⟩])
  .ret) .skip))))
  (.region false [] [⟨none, .bin false .add (.v 5) (.c (.int .i64 1)), none⟩, ⟨some 5, .mov (.r 0), none⟩])))))))
  (.seq (.region false [] [⟨some 2, .mov (.c (.int .i64 (-1))), none⟩])
  .ret))),
  [.v 2]⟩
def ir_slices_Contains_sl_int_int : IFun := ⟨[0, 1, 4],
  (.seq (.region false [] [⟨some 2, .mov (.c (.bool false)), none⟩])
  (.seq (.region false [] [⟨none, .mov (.v 0), none⟩, ⟨none, .mov (.v 1), none⟩, ⟨none, .call false f_slices_Index_sl_int_int [(.r 0), (.r 1)], none⟩, ⟨none, .bin false .geq (.r 2) (.c (.int .i64 0)), none⟩, ⟨some 2, .mov (.r 3), none⟩])
  .ret)),
  [.v 2]⟩
def ir_impl_reachedFrom_1 : IFun := ⟨[0, 1, 3],
  (.seq (.region false [] [⟨some 2, .mov (.c (.bool false)), none⟩])
  (.seq (.region false [] [⟨none, .load false 1 (.v 1), none⟩, ⟨none, .mov (.v 0), none⟩, ⟨none, .iaddr 1 (.r 0) (.r 1), none⟩, ⟨none, .load false 1 (.r 2), none⟩, ⟨some 2, .mov (.r 3), none⟩])
  .ret)),
  [.v 2]⟩
def ir_slices_IndexFunc_sl_int_int : IFun := ⟨[0, 1, 4, 5, 7, 8, 9, 16],
  (.seq (.region false [] [⟨some 2, .mov (.c (.int .i64 0)), none⟩])
  (.seq (.seq (.region false [] [⟨none, .mov (.v 0), none⟩, ⟨some 4, .len false (.r 0), none⟩, ⟨some 5, .mov (.c (.int .i64 0)), none⟩])
  (.block 0 (.loop [true, true, false, false, true, true, false, false] (.seq (.region false [] [⟨some 6, .bin false .lss (.v 5) (.v 4), none⟩])
  (.seq (.cond (.v 6) .skip (.exit 0))
  (.seq (.block 1 (.seq (.region false [] [⟨none, .mov (.v 5), none⟩, ⟨some 3, .mov (.r 0), none⟩])
  (.seq (.region false [] [⟨none, .mov (.v 1), none⟩, ⟨none, .mov (.v 0), none⟩, ⟨none, .mov (.v 3), none⟩, ⟨none, .iaddr 1 (.r 1) (.r 2), none⟩, ⟨none, .load false 1 (.r 3), none⟩, ⟨some 7, .callv false (.r 0) [(.r 4)], none⟩])
  (.cond (.v 7) (.seq (.region false [] [⟨none, .mov (.v 3), none⟩, ⟨some 2, .mov (.r 0), none⟩])
  .ret) .skip))))
  (.region false [] [⟨none, .bin false .add (.v 5) (.c (.int .i64 1)), none⟩, ⟨some 5, .mov (.r 0), none⟩])))))))
  (.seq (.region false [] [⟨some 2, .mov (.c (.int .i64 (-1))), none⟩])
  .ret))),
  [.v 2]⟩
def ir_slices_ContainsFunc_sl_int_int : IFun := ⟨[0, 1, 4],
  (.seq (.region false [] [⟨some 2, .mov (.c (.bool false)), none⟩])
  (.seq (.region false [] [⟨none, .mov (.v 0), none⟩, ⟨none, .mov (.v 1), none⟩, ⟨none, .call false f_slices_IndexFunc_sl_int_int [(.r 0), (.r 1)], none⟩, ⟨none, .bin false .geq (.r 2) (.c (.int .i64 0)), none⟩, ⟨some 2, .mov (.r 3), none⟩])
  .ret)),
  [.v 2]⟩
def ir_impl_reachedFrom : IFun := ⟨[0, 1, 2, 3, 6, 7, 8, 9, 10, 11, 12, 13, 14, 16, 27, 29, 30, 31, 32, 40, 52, 56, 57, 58, 59],
  (.seq (.region false [] [⟨some 3, .box t_impl_Net 2 (.v 0), none⟩, ⟨some 4, .nilrow t_bool true 1, none⟩, ⟨some 5, .nilrow t_bool true 1, none⟩])
  (.seq (.region true [(8, 4)] [⟨none, .faddr 0 (.v 3), none⟩, ⟨none, .load false 1 (.r 0), none⟩, ⟨none, .mk t_bool true 1 (.bool false) (.r 1), none⟩, ⟨none, .faddr 1 (.v 3), none⟩, ⟨none, .load false 1 (.r 3), none⟩, ⟨none, .len false (.r 4), none⟩, ⟨none, .mk t_bool true 1 (.bool false) (.r 5), none⟩, ⟨some 6, .alloc t_sl_bool [(.nil true 1)], none⟩, ⟨none, .store 1 (.v 6) (.r 2), none⟩, ⟨some 7, .mov (.r 6), none⟩])
  (.seq (.region false [] [⟨none, .load false 1 (.v 6), none⟩, ⟨none, .mov (.v 1), none⟩, ⟨none, .iaddr 1 (.r 0) (.r 1), none⟩, ⟨none, .store 1 (.r 2) (.c (.bool true)), none⟩])
  (.seq (.seq (.region false [] [⟨some 8, .mov (.c (.bool true)), none⟩])
  (.block 0 (.loop [false, false, true, true, false, false, true, true, true, false, false, false, false, false, false, false, false, false, false, false, false, false, false, false, false] (.seq (.seq (.region false [] [⟨some 14, .mov (.v 8), none⟩])
  (.cond (.v 14) .skip (.exit 0)))
  (.block 1 (.seq (.region false [] [⟨some 8, .mov (.c (.bool false)), none⟩])
  (.seq (.region false [] [⟨none, .faddr 1 (.v 3), none⟩, ⟨some 15, .load false 1 (.r 0), none⟩, ⟨some 16, .len false (.v 15), none⟩, ⟨some 17, .mov (.c (.int .i64 0)), none⟩])
  (.block 2 (.loop [false, false, true, true, false, false, true, true, true, false, false, false, false, false, false, true, true, true, false, false, false, false, false, false, false] (.seq (.region false [] [⟨some 18, .bin false .lss (.v 17) (.v 16), none⟩])
  (.seq (.cond (.v 18) .skip (.exit 2))
  (.seq (.block 3 (.seq (.region false [] [⟨none, .mov (.v 17), none⟩, ⟨none, .iaddr 3 (.v 15) (.v 17), none⟩, ⟨none, .load true 3 (.r 1), none⟩, ⟨some 10, .alloc t_impl_Trans [(.nil true 1), (.nil true 1), (.nil true 1)], none⟩, ⟨some 9, .mov (.r 0), none⟩, ⟨none, .store 3 (.v 10) (.r 2), none⟩])
  (.seq (.region true [] [⟨none, .faddr 0 (.v 10), none⟩, ⟨none, .load false 1 (.r 0), none⟩, ⟨none, .faddr 1 (.v 10), none⟩, ⟨none, .load false 1 (.r 2), none⟩, ⟨some 11, .mov (.r 1), none⟩, ⟨some 12, .mov (.r 3), none⟩])
  (.seq (.seq (.region false [] [⟨some 19, .mov (.v 2), none⟩])
  (.cond (.v 19) (.region false [] [⟨none, .mov (.v 12), none⟩, ⟨none, .mov (.v 11), none⟩, ⟨some 11, .mov (.r 0), none⟩, ⟨some 12, .mov (.r 1), none⟩]) .skip))
  (.seq (.seq (.region false [] [⟨none, .mov (.v 7), none⟩, ⟨none, .mov (.v 9), none⟩, ⟨none, .iaddr 1 (.r 0) (.r 1), none⟩, ⟨none, .load false 1 (.r 2), none⟩, ⟨none, .mov (.r 3), none⟩, ⟨none, .mov (.v 11), some (4, false)⟩, ⟨none, .mkfn f_impl_reachedFrom_1 [(.v 6)], some (4, false)⟩, ⟨none, .call false f_slices_ContainsFunc_sl_int_int [(.r 5), (.r 6)], some (4, false)⟩, ⟨none, .not (.r 7), some (4, false)⟩, ⟨some 20, .pick (.r 4) (.c (.bool true)) (.r 8), none⟩])
  (.cond (.v 20) (.exit 3) .skip))
  (.seq (.region false [] [⟨none, .mov (.v 7), none⟩, ⟨none, .mov (.v 9), none⟩, ⟨none, .iaddr 1 (.r 0) (.r 1), none⟩, ⟨none, .store 1 (.r 2) (.c (.bool true)), none⟩, ⟨some 8, .mov (.c (.bool true)), none⟩])
  (.seq (.region false [] [⟨some 21, .mov (.v 12), none⟩, ⟨some 22, .len false (.v 21), none⟩, ⟨some 23, .mov (.c (.int .i64 0)), none⟩])
  (.block 4 (.loop [false, false, true, true, false, false, true, true, true, false, false, false, false, false, false, true, true, true, false, false, false, true, true, true, false] (.seq (.region false [] [⟨some 24, .bin false .lss (.v 23) (.v 22), none⟩])
  (.seq (.cond (.v 24) .skip (.exit 4))
  (.seq (.block 5 (.seq (.region false [] [⟨none, .iaddr 1 (.v 21) (.v 23), none⟩, ⟨none, .load false 1 (.r 0), none⟩, ⟨some 13, .mov (.r 1), none⟩])
  (.region false [] [⟨none, .load false 1 (.v 6), none⟩, ⟨none, .mov (.v 13), none⟩, ⟨none, .iaddr 1 (.r 0) (.r 1), none⟩, ⟨none, .store 1 (.r 2) (.c (.bool true)), none⟩])))
  (.region false [] [⟨none, .bin false .add (.v 23) (.c (.int .i64 1)), none⟩, ⟨some 23, .mov (.r 0), none⟩])))))))))))))
  (.region false [] [⟨none, .bin false .add (.v 17) (.c (.int .i64 1)), none⟩, ⟨some 17, .mov (.r 0), none⟩])))))))))))))
  (.seq (.region false [] [⟨none, .load false 1 (.v 6), none⟩, ⟨none, .mov (.v 7), none⟩, ⟨some 4, .mov (.r 0), none⟩, ⟨some 5, .mov (.r 1), none⟩])
  .ret))))),
  [.v 4, .v 5]⟩
def ir_impl_bothOf : IFun := ⟨[0, 1, 4, 5, 6, 7, 8, 9, 10, 11, 21],
  (.seq (.region false [] [⟨some 2, .nilrow t_int true 1, none⟩])
  (.seq (.region false [] [⟨some 3, .nilrow t_int true 1, none⟩])
  (.seq (.seq (.region false [] [⟨some 6, .mov (.v 0), none⟩, ⟨some 7, .len false (.v 6), none⟩, ⟨some 8, .mov (.c (.int .i64 0)), none⟩])
  (.block 0 (.loop [false, true, false, true, false, false, true, true, true, false, false] (.seq (.region false [] [⟨some 9, .bin false .lss (.v 8) (.v 7), none⟩])
  (.seq (.cond (.v 9) .skip (.exit 0))
  (.seq (.block 1 (.seq (.region false [] [⟨none, .mov (.v 8), none⟩, ⟨none, .iaddr 1 (.v 6) (.v 8), none⟩, ⟨none, .load false 1 (.r 1), none⟩, ⟨some 4, .mov (.r 0), none⟩, ⟨some 5, .mov (.r 2), none⟩])
  (.seq (.region false [] [⟨none, .mov (.v 5), none⟩, ⟨none, .mov (.r 0), none⟩, ⟨none, .mov (.v 1), some (1, true)⟩, ⟨none, .mov (.v 4), some (1, true)⟩, ⟨none, .iaddr 1 (.r 2) (.r 3), some (1, true)⟩, ⟨none, .load false 1 (.r 4), some (1, true)⟩, ⟨some 10, .pick (.r 1) (.r 5) (.c (.bool false)), none⟩])
  (.cond (.v 10) (.region false [] [⟨none, .mov (.v 3), none⟩, ⟨none, .mov (.v 4), none⟩, ⟨none, .bslice false t_int true 1 [(.r 1)], none⟩, ⟨none, .append t_int true 1 (.r 0) (.r 2), none⟩, ⟨some 3, .mov (.r 3), none⟩]) .skip))))
  (.region false [] [⟨none, .bin false .add (.v 8) (.c (.int .i64 1)), none⟩, ⟨some 8, .mov (.r 0), none⟩])))))))
  (.seq (.region false [] [⟨none, .mov (.v 3), none⟩, ⟨some 2, .mov (.r 0), none⟩])
  .ret)))),
  [.v 2]⟩
def ir_impl_onWay : IFun := ⟨[0, 1, 2, 3, 6, 7, 8, 9, 10, 11],
  (.seq (.region false [] [⟨some 3, .box t_impl_Net 2 (.v 0), none⟩, ⟨some 4, .nilrow t_int true 1, none⟩, ⟨some 5, .nilrow t_int true 1, none⟩])
  (.seq (.region false [] [⟨none, .load true 2 (.v 3), none⟩, ⟨none, .mov (.v 1), none⟩, ⟨none, .call false f_impl_reachedFrom [(.r 0), (.r 1), (.c (.bool false))], none⟩, ⟨none, .mov (.r 2), none⟩, ⟨none, .extract (.r 3) 0, none⟩, ⟨none, .extract (.r 3) 1, none⟩, ⟨some 6, .mov (.r 4), none⟩, ⟨some 7, .mov (.r 5), none⟩])
  (.seq (.region false [] [⟨none, .load true 2 (.v 3), none⟩, ⟨none, .mov (.v 2), none⟩, ⟨none, .call false f_impl_reachedFrom [(.r 0), (.r 1), (.c (.bool true))], none⟩, ⟨none, .mov (.r 2), none⟩, ⟨none, .extract (.r 3) 0, none⟩, ⟨none, .extract (.r 3) 1, none⟩, ⟨some 8, .mov (.r 4), none⟩, ⟨some 9, .mov (.r 5), none⟩])
  (.seq (.region false [] [⟨none, .mov (.v 6), none⟩, ⟨none, .mov (.v 8), none⟩, ⟨none, .call false f_impl_bothOf [(.r 0), (.r 1)], none⟩, ⟨none, .mov (.v 7), none⟩, ⟨none, .mov (.v 9), none⟩, ⟨none, .call false f_impl_bothOf [(.r 3), (.r 4)], none⟩, ⟨some 4, .mov (.r 2), none⟩, ⟨some 5, .mov (.r 5), none⟩])
  .ret)))),
  [.v 4, .v 5]⟩
def ir_impl_GoodFlow : IFun := ⟨[0, 1, 2, 3, 5, 6, 7, 37, 39, 40, 41, 42, 70],
  (.seq (.region false [] [⟨some 1, .box t_impl_Flow 4 (.v 0), none⟩, ⟨some 2, .mov (.c (.bool false)), none⟩])
  (.seq (.region false [] [⟨none, .faddr 0 (.v 1), none⟩, ⟨none, .load true 2 (.r 0), none⟩, ⟨some 3, .alloc t_impl_Net [(.int .i64 0), (.nil false 3)], none⟩, ⟨none, .store 2 (.v 3) (.r 1), none⟩])
  (.seq (.seq (.region false [] [⟨none, .load true 2 (.v 3), none⟩, ⟨none, .call false f_impl_GoodNet [(.r 0)], none⟩, ⟨none, .not (.r 1), none⟩, ⟨none, .mov (.r 2), none⟩, ⟨none, .faddr 2 (.v 1), some (3, false)⟩, ⟨none, .load false 1 (.r 4), some (3, false)⟩, ⟨none, .faddr 0 (.v 3), some (3, false)⟩, ⟨none, .load false 1 (.r 6), some (3, false)⟩, ⟨none, .bin false .sub (.r 7) (.c (.int .i64 1)), some (3, false)⟩, ⟨none, .call false f_impl_within [(.r 5), (.c (.int .i64 0)), (.r 8)], some (3, false)⟩, ⟨none, .not (.r 9), some (3, false)⟩, ⟨none, .pick (.r 3) (.c (.bool true)) (.r 10), none⟩, ⟨none, .mov (.r 11), none⟩, ⟨none, .faddr 3 (.v 1), some (12, false)⟩, ⟨none, .load false 1 (.r 13), some (12, false)⟩, ⟨none, .faddr 0 (.v 3), some (12, false)⟩, ⟨none, .load false 1 (.r 15), some (12, false)⟩, ⟨none, .bin false .sub (.r 16) (.c (.int .i64 1)), some (12, false)⟩, ⟨none, .call false f_impl_within [(.r 14), (.c (.int .i64 0)), (.r 17)], some (12, false)⟩, ⟨none, .not (.r 18), some (12, false)⟩, ⟨none, .pick (.r 12) (.c (.bool true)) (.r 19), none⟩, ⟨none, .mov (.r 20), none⟩, ⟨none, .faddr 2 (.v 1), some (21, false)⟩, ⟨none, .load false 1 (.r 22), some (21, false)⟩, ⟨none, .faddr 3 (.v 1), some (21, false)⟩, ⟨none, .load false 1 (.r 24), some (21, false)⟩, ⟨none, .bin false .eql (.r 23) (.r 25), some (21, false)⟩, ⟨some 7, .pick (.r 21) (.c (.bool true)) (.r 26), none⟩])
  (.cond (.v 7) (.seq (.region false [] [⟨some 2, .mov (.c (.bool false)), none⟩])
  .ret) .skip))
  (.seq (.seq (.region false [] [⟨none, .faddr 1 (.v 3), none⟩, ⟨some 8, .load false 1 (.r 0), none⟩, ⟨some 9, .len false (.v 8), none⟩, ⟨some 10, .mov (.c (.int .i64 0)), none⟩])
  (.block 0 (.loop [false, true, false, true, false, false, false, false, true, true, true, false, false] (.seq (.region false [] [⟨some 11, .bin false .lss (.v 10) (.v 9), none⟩])
  (.seq (.cond (.v 11) .skip (.exit 0))
  (.seq (.block 1 (.seq (.region false [] [⟨none, .iaddr 3 (.v 8) (.v 10), none⟩, ⟨none, .load true 3 (.r 0), none⟩, ⟨some 4, .alloc t_impl_Trans [(.nil true 1), (.nil true 1), (.nil true 1)], none⟩, ⟨none, .store 3 (.v 4) (.r 1), none⟩])
  (.seq (.region false [] [⟨none, .faddr 1 (.v 4), none⟩, ⟨none, .load false 1 (.r 0), none⟩, ⟨none, .faddr 2 (.v 1), none⟩, ⟨none, .load false 1 (.r 2), none⟩, ⟨none, .call false f_slices_Contains_sl_int_int [(.r 1), (.r 3)], none⟩, ⟨none, .mov (.r 4), none⟩, ⟨none, .faddr 0 (.v 4), some (5, false)⟩, ⟨none, .load false 1 (.r 6), some (5, false)⟩, ⟨none, .faddr 3 (.v 1), some (5, false)⟩, ⟨none, .load false 1 (.r 8), some (5, false)⟩, ⟨none, .call false f_slices_Contains_sl_int_int [(.r 7), (.r 9)], some (5, false)⟩, ⟨none, .pick (.r 5) (.c (.bool true)) (.r 10), none⟩, ⟨none, .mov (.r 11), none⟩, ⟨none, .faddr 2 (.v 4), some (12, false)⟩, ⟨none, .load false 1 (.r 13), some (12, false)⟩, ⟨none, .faddr 2 (.v 1), some (12, false)⟩, ⟨none, .load false 1 (.r 15), some (12, false)⟩, ⟨none, .call false f_slices_Contains_sl_int_int [(.r 14), (.r 16)], some (12, false)⟩, ⟨none, .pick (.r 12) (.c (.bool true)) (.r 17), none⟩, ⟨none, .mov (.r 18), none⟩, ⟨none, .faddr 2 (.v 4), some (19, false)⟩, ⟨none, .load false 1 (.r 20), some (19, false)⟩, ⟨none, .faddr 3 (.v 1), some (19, false)⟩, ⟨none, .load false 1 (.r 22), some (19, false)⟩, ⟨none, .call false f_slices_Contains_sl_int_int [(.r 21), (.r 23)], some (19, false)⟩, ⟨some 12, .pick (.r 19) (.c (.bool true)) (.r 24), none⟩])
  (.cond (.v 12) (.seq (.region false [] [⟨some 2, .mov (.c (.bool false)), none⟩])
  .ret) .skip))))
  (.region false [] [⟨none, .bin false .add (.v 10) (.c (.int .i64 1)), none⟩, ⟨some 10, .mov (.r 0), none⟩])))))))
  (.seq (.region false [] [⟨none, .load true 2 (.v 3), none⟩, ⟨none, .faddr 2 (.v 1), none⟩, ⟨none, .load false 1 (.r 1), none⟩, ⟨none, .faddr 3 (.v 1), none⟩, ⟨none, .load false 1 (.r 3), none⟩, ⟨none, .call false f_impl_onWay [(.r 0), (.r 2), (.r 4)], none⟩, ⟨none, .mov (.r 5), none⟩, ⟨none, .extract (.r 6) 0, none⟩, ⟨none, .extract (.r 6) 1, none⟩, ⟨some 5, .mov (.r 7), none⟩, ⟨some 6, .mov (.r 8), none⟩])
  (.seq (.region false [] [⟨none, .mov (.v 5), none⟩, ⟨none, .len false (.r 0), none⟩, ⟨none, .faddr 0 (.v 3), none⟩, ⟨none, .load false 1 (.r 2), none⟩, ⟨none, .bin false .eql (.r 1) (.r 3), none⟩, ⟨none, .mov (.r 4), none⟩, ⟨none, .mov (.v 6), some (5, true)⟩, ⟨none, .len false (.r 6), some (5, true)⟩, ⟨none, .faddr 1 (.v 3), some (5, true)⟩, ⟨none, .load false 1 (.r 8), some (5, true)⟩, ⟨none, .len false (.r 9), some (5, true)⟩, ⟨none, .bin false .eql (.r 7) (.r 10), some (5, true)⟩, ⟨none, .pick (.r 5) (.r 11) (.c (.bool false)), none⟩, ⟨some 2, .mov (.r 12), none⟩])
  .ret)))))),
  [.v 2]⟩
def ir_impl_TreeFlow : IFun := ⟨[0, 2, 3, 4, 5, 6, 9, 28],
  (.seq (.region false [] [⟨some 1, .alloc t_impl_Flow [(.int .i64 0), (.nil false 3), (.int .i64 0), (.int .i64 0)], none⟩, ⟨some 2, .nilrow t_int true 1, none⟩, ⟨some 3, .mov (.c (.bool false)), none⟩])
  (.seq (.seq (.region false [] [⟨none, .mov (.v 0), none⟩, ⟨none, .call false f_impl_isTree [(.r 0)], none⟩, ⟨some 6, .not (.r 1), none⟩])
  (.cond (.v 6) (.seq (.region false [] [⟨none, .build [(.int .i64 0), (.nil false 3), (.int .i64 0), (.int .i64 0)] [], none⟩, ⟨none, .stl 4 (.v 1) (.r 0), none⟩, ⟨some 2, .nilrow t_int true 1, none⟩, ⟨some 3, .mov (.c (.bool false)), none⟩])
  .ret) .skip))
  (.seq (.region false [] [⟨none, .mov (.v 0), none⟩, ⟨none, .call false f_impl_parsed [(.r 0)], none⟩, ⟨none, .build [(.int .i64 0), (.nil false 3)] [(0, 1, (.c (.int .i64 2)))], none⟩, ⟨none, .build [(.nil true 4), (.int .i64 0), (.nil false 3), (.nil true 1)] [(0, 1, (.r 1)), (1, 2, (.r 2))], none⟩, ⟨none, .box t_impl_treeBuild 4 (.r 3), none⟩, ⟨some 4, .mov (.r 4), none⟩])
  (.seq (.region false [] [⟨none, .mov (.v 4), none⟩, ⟨none, .mov (.v 0), none⟩, ⟨none, .len false (.r 1), none⟩, ⟨none, .bin false .sub (.r 2) (.c (.int .i64 1)), none⟩, ⟨none, .callm f_impl_treeBuild_build [(.r 0), (.r 3), (.c (.int .i64 0)), (.c (.int .i64 1))], none⟩])
  (.seq (.region false [] [⟨none, .mov (.v 4), none⟩, ⟨none, .ncheck (.r 0), none⟩, ⟨none, .faddr 1 (.r 1), none⟩, ⟨none, .load true 2 (.r 2), none⟩, ⟨none, .build [(.int .i64 0), (.nil false 3), (.int .i64 0), (.int .i64 0)] [(0, 2, (.r 3)), (2, 1, (.c (.int .i64 0))), (3, 1, (.c (.int .i64 1)))], none⟩, ⟨some 5, .alloc t_impl_Flow [(.int .i64 0), (.nil false 3), (.int .i64 0), (.int .i64 0)], none⟩, ⟨none, .stl 4 (.v 5) (.r 4), none⟩])
  (.seq (.seq (.region false [] [⟨none, .load true 4 (.v 5), none⟩, ⟨none, .call false f_impl_GoodFlow [(.r 0)], none⟩, ⟨some 7, .not (.r 1), none⟩])
  (.cond (.v 7) (.seq (.region false [] [⟨none, .build [(.int .i64 0), (.nil false 3), (.int .i64 0), (.int .i64 0)] [], none⟩, ⟨none, .stl 4 (.v 1) (.r 0), none⟩, ⟨some 2, .nilrow t_int true 1, none⟩, ⟨some 3, .mov (.c (.bool false)), none⟩])
  .ret) .skip))
  (.seq (.region true [(5, 4)] [⟨none, .load true 4 (.v 5), none⟩, ⟨none, .mov (.v 4), none⟩, ⟨none, .ncheck (.r 1), none⟩, ⟨none, .faddr 3 (.r 2), none⟩, ⟨none, .load false 1 (.r 3), none⟩, ⟨none, .stl 4 (.v 1) (.r 0), none⟩, ⟨some 2, .mov (.r 4), none⟩, ⟨some 3, .mov (.c (.bool true)), none⟩])
  .ret))))))),
  [.cell true 4 1, .v 2, .v 3]⟩
def ir_laws_eqIntS : IFun := ⟨[0, 1, 4, 5, 10, 14, 25],
  (.seq (.region false [] [⟨some 2, .mov (.c (.bool false)), none⟩])
  (.seq (.seq (.region false [] [⟨none, .mov (.v 0), none⟩, ⟨none, .len false (.r 0), none⟩, ⟨none, .mov (.v 1), none⟩, ⟨none, .len false (.r 2), none⟩, ⟨some 4, .bin false .neq (.r 1) (.r 3), none⟩])
  (.cond (.v 4) (.seq (.region false [] [⟨some 2, .mov (.c (.bool false)), none⟩])
  .ret) .skip))
  (.seq (.seq (.region false [] [⟨some 3, .mov (.c (.int .i64 0)), none⟩])
  (.block 0 (.loop [true, true, false, true, false, false, false] (.seq (.seq (.region false [] [⟨none, .mov (.v 3), none⟩, ⟨none, .mov (.v 0), none⟩, ⟨none, .len false (.r 1), none⟩, ⟨some 5, .bin false .lss (.r 0) (.r 2), none⟩])
  (.cond (.v 5) .skip (.exit 0)))
  (.seq (.block 1 (.seq (.region true [] [⟨none, .mov (.v 0), none⟩, ⟨none, .mov (.v 3), none⟩, ⟨none, .iaddr 1 (.r 0) (.r 1), none⟩, ⟨none, .load false 1 (.r 2), none⟩, ⟨none, .mov (.v 1), none⟩, ⟨none, .mov (.v 3), none⟩, ⟨none, .iaddr 1 (.r 4) (.r 5), none⟩, ⟨none, .load false 1 (.r 6), none⟩, ⟨some 6, .bin false .neq (.r 3) (.r 7), none⟩])
  (.cond (.v 6) (.seq (.region false [] [⟨some 2, .mov (.c (.bool false)), none⟩])
  .ret) .skip)))
  (.region false [] [⟨none, .mov (.v 3), none⟩, ⟨none, .bin false .add (.r 0) (.c (.int .i64 1)), none⟩, ⟨some 3, .mov (.r 1), none⟩]))))))
  (.seq (.region false [] [⟨some 2, .mov (.c (.bool true)), none⟩])
  .ret)))),
  [.v 2]⟩
def ir_laws_eqTrans : IFun := ⟨[0, 1, 2, 3, 4, 10, 16, 22],
  (.seq (.region false [] [⟨some 2, .box t_impl_Trans 3 (.v 0), none⟩, ⟨some 3, .box t_impl_Trans 3 (.v 1), none⟩, ⟨some 4, .mov (.c (.bool false)), none⟩])
  (.seq (.seq (.region false [] [⟨none, .faddr 0 (.v 2), none⟩, ⟨none, .load false 1 (.r 0), none⟩, ⟨none, .faddr 0 (.v 3), none⟩, ⟨none, .load false 1 (.r 2), none⟩, ⟨none, .call false f_laws_eqIntS [(.r 1), (.r 3)], none⟩, ⟨some 5, .not (.r 4), none⟩])
  (.cond (.v 5) (.seq (.region false [] [⟨some 4, .mov (.c (.bool false)), none⟩])
  .ret) .skip))
  (.seq (.seq (.region false [] [⟨none, .faddr 1 (.v 2), none⟩, ⟨none, .load false 1 (.r 0), none⟩, ⟨none, .faddr 1 (.v 3), none⟩, ⟨none, .load false 1 (.r 2), none⟩, ⟨none, .call false f_laws_eqIntS [(.r 1), (.r 3)], none⟩, ⟨some 6, .not (.r 4), none⟩])
  (.cond (.v 6) (.seq (.region false [] [⟨some 4, .mov (.c (.bool false)), none⟩])
  .ret) .skip))
  (.seq (.seq (.region false [] [⟨none, .faddr 2 (.v 2), none⟩, ⟨none, .load false 1 (.r 0), none⟩, ⟨none, .faddr 2 (.v 3), none⟩, ⟨none, .load false 1 (.r 2), none⟩, ⟨none, .call false f_laws_eqIntS [(.r 1), (.r 3)], none⟩, ⟨some 7, .not (.r 4), none⟩])
  (.cond (.v 7) (.seq (.region false [] [⟨some 4, .mov (.c (.bool false)), none⟩])
  .ret) .skip))
  (.seq (.region false [] [⟨some 4, .mov (.c (.bool true)), none⟩])
  .ret))))),
  [.v 4]⟩
def ir_laws_eqTransS : IFun := ⟨[0, 1, 4, 5, 10, 14, 26],
  (.seq (.region false [] [⟨some 2, .mov (.c (.bool false)), none⟩])
  (.seq (.seq (.region false [] [⟨none, .mov (.v 0), none⟩, ⟨none, .len false (.r 0), none⟩, ⟨none, .mov (.v 1), none⟩, ⟨none, .len false (.r 2), none⟩, ⟨some 4, .bin false .neq (.r 1) (.r 3), none⟩])
  (.cond (.v 4) (.seq (.region false [] [⟨some 2, .mov (.c (.bool false)), none⟩])
  .ret) .skip))
  (.seq (.seq (.region false [] [⟨some 3, .mov (.c (.int .i64 0)), none⟩])
  (.block 0 (.loop [true, true, false, true, false, false, false] (.seq (.seq (.region false [] [⟨none, .mov (.v 3), none⟩, ⟨none, .mov (.v 0), none⟩, ⟨none, .len false (.r 1), none⟩, ⟨some 5, .bin false .lss (.r 0) (.r 2), none⟩])
  (.cond (.v 5) .skip (.exit 0)))
  (.seq (.block 1 (.seq (.region true [] [⟨none, .mov (.v 0), none⟩, ⟨none, .mov (.v 3), none⟩, ⟨none, .iaddr 3 (.r 0) (.r 1), none⟩, ⟨none, .load true 3 (.r 2), none⟩, ⟨none, .mov (.v 1), none⟩, ⟨none, .mov (.v 3), none⟩, ⟨none, .iaddr 3 (.r 4) (.r 5), none⟩, ⟨none, .load true 3 (.r 6), none⟩, ⟨none, .call false f_laws_eqTrans [(.r 3), (.r 7)], none⟩, ⟨some 6, .not (.r 8), none⟩])
  (.cond (.v 6) (.seq (.region false [] [⟨some 2, .mov (.c (.bool false)), none⟩])
  .ret) .skip)))
  (.region false [] [⟨none, .mov (.v 3), none⟩, ⟨none, .bin false .add (.r 0) (.c (.int .i64 1)), none⟩, ⟨some 3, .mov (.r 1), none⟩]))))))
  (.seq (.region false [] [⟨some 2, .mov (.c (.bool true)), none⟩])
  .ret)))),
  [.v 2]⟩
def ir_laws_eqNet : IFun := ⟨[0, 1, 2, 3, 4, 9, 15],
  (.seq (.region false [] [⟨some 2, .box t_impl_Net 2 (.v 0), none⟩, ⟨some 3, .box t_impl_Net 2 (.v 1), none⟩, ⟨some 4, .mov (.c (.bool false)), none⟩])
  (.seq (.seq (.region false [] [⟨none, .faddr 0 (.v 2), none⟩, ⟨none, .load false 1 (.r 0), none⟩, ⟨none, .faddr 0 (.v 3), none⟩, ⟨none, .load false 1 (.r 2), none⟩, ⟨some 5, .bin false .neq (.r 1) (.r 3), none⟩])
  (.cond (.v 5) (.seq (.region false [] [⟨some 4, .mov (.c (.bool false)), none⟩])
  .ret) .skip))
  (.seq (.seq (.region false [] [⟨none, .faddr 1 (.v 2), none⟩, ⟨none, .load false 1 (.r 0), none⟩, ⟨none, .faddr 1 (.v 3), none⟩, ⟨none, .load false 1 (.r 2), none⟩, ⟨none, .call false f_laws_eqTransS [(.r 1), (.r 3)], none⟩, ⟨some 6, .not (.r 4), none⟩])
  (.cond (.v 6) (.seq (.region false [] [⟨some 4, .mov (.c (.bool false)), none⟩])
  .ret) .skip))
  (.seq (.region false [] [⟨some 4, .mov (.c (.bool true)), none⟩])
  .ret)))),
  [.v 4]⟩
def ir_laws_eqFlow : IFun := ⟨[0, 1, 2, 3, 4, 10, 15, 20],
  (.seq (.region false [] [⟨some 2, .box t_impl_Flow 4 (.v 0), none⟩, ⟨some 3, .box t_impl_Flow 4 (.v 1), none⟩, ⟨some 4, .mov (.c (.bool false)), none⟩])
  (.seq (.seq (.region false [] [⟨none, .faddr 0 (.v 2), none⟩, ⟨none, .load true 2 (.r 0), none⟩, ⟨none, .faddr 0 (.v 3), none⟩, ⟨none, .load true 2 (.r 2), none⟩, ⟨none, .call false f_laws_eqNet [(.r 1), (.r 3)], none⟩, ⟨some 5, .not (.r 4), none⟩])
  (.cond (.v 5) (.seq (.region false [] [⟨some 4, .mov (.c (.bool false)), none⟩])
  .ret) .skip))
  (.seq (.seq (.region false [] [⟨none, .faddr 2 (.v 2), none⟩, ⟨none, .load false 1 (.r 0), none⟩, ⟨none, .faddr 2 (.v 3), none⟩, ⟨none, .load false 1 (.r 2), none⟩, ⟨some 6, .bin false .neq (.r 1) (.r 3), none⟩])
  (.cond (.v 6) (.seq (.region false [] [⟨some 4, .mov (.c (.bool false)), none⟩])
  .ret) .skip))
  (.seq (.seq (.region false [] [⟨none, .faddr 3 (.v 2), none⟩, ⟨none, .load false 1 (.r 0), none⟩, ⟨none, .faddr 3 (.v 3), none⟩, ⟨none, .load false 1 (.r 2), none⟩, ⟨some 7, .bin false .neq (.r 1) (.r 3), none⟩])
  (.cond (.v 7) (.seq (.region false [] [⟨some 4, .mov (.c (.bool false)), none⟩])
  .ret) .skip))
  (.seq (.region false [] [⟨some 4, .mov (.c (.bool true)), none⟩])
  .ret))))),
  [.v 4]⟩
def ir_laws_eqBranch : IFun := ⟨[0, 1, 2, 3, 4, 9, 14],
  (.seq (.region false [] [⟨some 2, .box t_impl_Branch 2 (.v 0), none⟩, ⟨some 3, .box t_impl_Branch 2 (.v 1), none⟩, ⟨some 4, .mov (.c (.bool false)), none⟩])
  (.seq (.seq (.region false [] [⟨none, .faddr 0 (.v 2), none⟩, ⟨none, .load false 1 (.r 0), none⟩, ⟨none, .faddr 0 (.v 3), none⟩, ⟨none, .load false 1 (.r 2), none⟩, ⟨some 5, .bin false .neq (.r 1) (.r 3), none⟩])
  (.cond (.v 5) (.seq (.region false [] [⟨some 4, .mov (.c (.bool false)), none⟩])
  .ret) .skip))
  (.seq (.seq (.region false [] [⟨none, .faddr 1 (.v 2), none⟩, ⟨none, .load false 1 (.r 0), none⟩, ⟨none, .faddr 1 (.v 3), none⟩, ⟨none, .load false 1 (.r 2), none⟩, ⟨some 6, .bin false .neq (.r 1) (.r 3), none⟩])
  (.cond (.v 6) (.seq (.region false [] [⟨some 4, .mov (.c (.bool false)), none⟩])
  .ret) .skip))
  (.seq (.region false [] [⟨some 4, .mov (.c (.bool true)), none⟩])
  .ret)))),
  [.v 4]⟩
def ir_laws_eqBranchS : IFun := ⟨[0, 1, 4, 5, 10, 14, 26],
  (.seq (.region false [] [⟨some 2, .mov (.c (.bool false)), none⟩])
  (.seq (.seq (.region false [] [⟨none, .mov (.v 0), none⟩, ⟨none, .len false (.r 0), none⟩, ⟨none, .mov (.v 1), none⟩, ⟨none, .len false (.r 2), none⟩, ⟨some 4, .bin false .neq (.r 1) (.r 3), none⟩])
  (.cond (.v 4) (.seq (.region false [] [⟨some 2, .mov (.c (.bool false)), none⟩])
  .ret) .skip))
  (.seq (.seq (.region false [] [⟨some 3, .mov (.c (.int .i64 0)), none⟩])
  (.block 0 (.loop [true, true, false, true, false, false, false] (.seq (.seq (.region false [] [⟨none, .mov (.v 3), none⟩, ⟨none, .mov (.v 0), none⟩, ⟨none, .len false (.r 1), none⟩, ⟨some 5, .bin false .lss (.r 0) (.r 2), none⟩])
  (.cond (.v 5) .skip (.exit 0)))
  (.seq (.block 1 (.seq (.region true [] [⟨none, .mov (.v 0), none⟩, ⟨none, .mov (.v 3), none⟩, ⟨none, .iaddr 2 (.r 0) (.r 1), none⟩, ⟨none, .load true 2 (.r 2), none⟩, ⟨none, .mov (.v 1), none⟩, ⟨none, .mov (.v 3), none⟩, ⟨none, .iaddr 2 (.r 4) (.r 5), none⟩, ⟨none, .load true 2 (.r 6), none⟩, ⟨none, .call false f_laws_eqBranch [(.r 3), (.r 7)], none⟩, ⟨some 6, .not (.r 8), none⟩])
  (.cond (.v 6) (.seq (.region false [] [⟨some 2, .mov (.c (.bool false)), none⟩])
  .ret) .skip)))
  (.region false [] [⟨none, .mov (.v 3), none⟩, ⟨none, .bin false .add (.r 0) (.c (.int .i64 1)), none⟩, ⟨some 3, .mov (.r 1), none⟩]))))))
  (.seq (.region false [] [⟨some 2, .mov (.c (.bool true)), none⟩])
  .ret)))),
  [.v 2]⟩
def ir_laws_markBranchS : IFun := ⟨[0, 1, 4, 5, 9],
  (.seq (.region false [] [⟨some 2, .mov (.c (.int .i64 0)), none⟩])
  (.seq (.seq (.region false [] [⟨some 3, .mov (.c (.int .i64 0)), none⟩])
  (.block 0 (.loop [true, true, false, true, false] (.seq (.seq (.region false [] [⟨none, .mov (.v 3), none⟩, ⟨none, .mov (.v 0), none⟩, ⟨none, .len false (.r 1), none⟩, ⟨some 4, .bin false .lss (.r 0) (.r 2), none⟩])
  (.cond (.v 4) .skip (.exit 0)))
  (.seq (.block 1 (.seq (.region false [] [⟨none, .mov (.v 0), none⟩, ⟨none, .mov (.v 3), none⟩, ⟨none, .mov (.v 1), none⟩, ⟨none, .iaddr 2 (.r 0) (.r 1), none⟩, ⟨none, .faddr 0 (.r 3), none⟩, ⟨none, .stl 1 (.r 4) (.r 2), none⟩])
  (.seq (.region false [] [⟨none, .mov (.v 1), none⟩, ⟨none, .bin false .add (.r 0) (.c (.int .i64 1)), none⟩, ⟨some 1, .mov (.r 1), none⟩])
  (.seq (.region false [] [⟨none, .mov (.v 0), none⟩, ⟨none, .mov (.v 3), none⟩, ⟨none, .mov (.v 1), none⟩, ⟨none, .iaddr 2 (.r 0) (.r 1), none⟩, ⟨none, .faddr 1 (.r 3), none⟩, ⟨none, .stl 1 (.r 4) (.r 2), none⟩])
  (.region false [] [⟨none, .mov (.v 1), none⟩, ⟨none, .bin false .add (.r 0) (.c (.int .i64 1)), none⟩, ⟨some 1, .mov (.r 1), none⟩])))))
  (.region false [] [⟨none, .mov (.v 3), none⟩, ⟨none, .bin false .add (.r 0) (.c (.int .i64 1)), none⟩, ⟨some 3, .mov (.r 1), none⟩]))))))
  (.seq (.region false [] [⟨none, .mov (.v 1), none⟩, ⟨some 2, .mov (.r 0), none⟩])
  .ret))),
  [.v 2]⟩
def ir_laws_markIntS : IFun := ⟨[0, 1, 4, 5, 9],
  (.seq (.region false [] [⟨some 2, .mov (.c (.int .i64 0)), none⟩])
  (.seq (.seq (.region false [] [⟨some 3, .mov (.c (.int .i64 0)), none⟩])
  (.block 0 (.loop [true, true, false, true, false] (.seq (.seq (.region false [] [⟨none, .mov (.v 3), none⟩, ⟨none, .mov (.v 0), none⟩, ⟨none, .len false (.r 1), none⟩, ⟨some 4, .bin false .lss (.r 0) (.r 2), none⟩])
  (.cond (.v 4) .skip (.exit 0)))
  (.seq (.block 1 (.seq (.region false [] [⟨none, .mov (.v 0), none⟩, ⟨none, .mov (.v 3), none⟩, ⟨none, .mov (.v 1), none⟩, ⟨none, .iaddr 1 (.r 0) (.r 1), none⟩, ⟨none, .stl 1 (.r 3) (.r 2), none⟩])
  (.region false [] [⟨none, .mov (.v 1), none⟩, ⟨none, .bin false .add (.r 0) (.c (.int .i64 1)), none⟩, ⟨some 1, .mov (.r 1), none⟩])))
  (.region false [] [⟨none, .mov (.v 3), none⟩, ⟨none, .bin false .add (.r 0) (.c (.int .i64 1)), none⟩, ⟨some 3, .mov (.r 1), none⟩]))))))
  (.seq (.region false [] [⟨none, .mov (.v 1), none⟩, ⟨some 2, .mov (.r 0), none⟩])
  .ret))),
  [.v 2]⟩
def ir_laws_markTransS : IFun := ⟨[0, 1, 4, 5, 9],
  (.seq (.region false [] [⟨some 2, .mov (.c (.int .i64 0)), none⟩])
  (.seq (.seq (.region false [] [⟨some 3, .mov (.c (.int .i64 0)), none⟩])
  (.block 0 (.loop [true, true, false, true, false] (.seq (.seq (.region false [] [⟨none, .mov (.v 3), none⟩, ⟨none, .mov (.v 0), none⟩, ⟨none, .len false (.r 1), none⟩, ⟨some 4, .bin false .lss (.r 0) (.r 2), none⟩])
  (.cond (.v 4) .skip (.exit 0)))
  (.seq (.block 1 (.seq (.kreg [⟨none, .mov (.v 0), none⟩, ⟨none, .mov (.v 3), none⟩, ⟨none, .iaddr 3 (.r 0) (.r 1), none⟩, ⟨none, .faddr 0 (.r 2), none⟩, ⟨none, .load false 1 (.r 3), none⟩, ⟨none, .mov (.v 1), none⟩, ⟨none, .callm f_laws_markIntS [(.r 4), (.r 5)], none⟩, ⟨some 1, .mov (.r 6), none⟩])
  (.seq (.kreg [⟨none, .mov (.v 0), none⟩, ⟨none, .mov (.v 3), none⟩, ⟨none, .iaddr 3 (.r 0) (.r 1), none⟩, ⟨none, .faddr 1 (.r 2), none⟩, ⟨none, .load false 1 (.r 3), none⟩, ⟨none, .mov (.v 1), none⟩, ⟨none, .callm f_laws_markIntS [(.r 4), (.r 5)], none⟩, ⟨some 1, .mov (.r 6), none⟩])
  (.kreg [⟨none, .mov (.v 0), none⟩, ⟨none, .mov (.v 3), none⟩, ⟨none, .iaddr 3 (.r 0) (.r 1), none⟩, ⟨none, .faddr 2 (.r 2), none⟩, ⟨none, .load false 1 (.r 3), none⟩, ⟨none, .mov (.v 1), none⟩, ⟨none, .callm f_laws_markIntS [(.r 4), (.r 5)], none⟩, ⟨some 1, .mov (.r 6), none⟩]))))
  (.region false [] [⟨none, .mov (.v 3), none⟩, ⟨none, .bin false .add (.r 0) (.c (.int .i64 1)), none⟩, ⟨some 3, .mov (.r 1), none⟩]))))))
  (.seq (.region false [] [⟨none, .mov (.v 1), none⟩, ⟨some 2, .mov (.r 0), none⟩])
  .ret))),
  [.v 2]⟩
def ir_laws_markNet : IFun := ⟨[0, 1, 2, 4],
  (.seq (.region false [] [⟨some 2, .box t_impl_Net 2 (.v 0), none⟩, ⟨some 3, .mov (.c (.int .i64 0)), none⟩])
  (.seq (.region false [] [⟨none, .faddr 1 (.v 2), none⟩, ⟨none, .load false 1 (.r 0), none⟩, ⟨none, .mov (.v 1), none⟩, ⟨none, .callm f_laws_markTransS [(.r 1), (.r 2)], none⟩, ⟨some 1, .mov (.r 3), none⟩])
  (.seq (.region false [] [⟨none, .mov (.v 1), none⟩, ⟨some 3, .mov (.r 0), none⟩])
  .ret))),
  [.v 3]⟩
def ir_laws_markFlow : IFun := ⟨[0, 1, 2, 4],
  (.seq (.region false [] [⟨some 2, .box t_impl_Flow 4 (.v 0), none⟩, ⟨some 3, .mov (.c (.int .i64 0)), none⟩])
  (.seq (.region false [] [⟨none, .faddr 0 (.v 2), none⟩, ⟨none, .load true 2 (.r 0), none⟩, ⟨none, .mov (.v 1), none⟩, ⟨none, .callm f_laws_markNet [(.r 1), (.r 2)], none⟩, ⟨some 1, .mov (.r 3), none⟩])
  (.seq (.region false [] [⟨none, .mov (.v 1), none⟩, ⟨some 3, .mov (.r 0), none⟩])
  .ret))),
  [.v 3]⟩
def ir_laws_heldIntS : IFun := ⟨[0, 1, 4, 5, 9, 17],
  (.seq (.region false [] [⟨some 2, .mov (.c (.int .i64 0)), none⟩])
  (.seq (.seq (.region false [] [⟨some 3, .mov (.c (.int .i64 0)), none⟩])
  (.block 0 (.loop [true, true, false, true, false, false] (.seq (.seq (.region false [] [⟨none, .mov (.v 3), none⟩, ⟨none, .mov (.v 0), none⟩, ⟨none, .len false (.r 1), none⟩, ⟨some 4, .bin false .lss (.r 0) (.r 2), none⟩])
  (.cond (.v 4) .skip (.exit 0)))
  (.seq (.block 1 (.seq (.seq (.region false [] [⟨none, .mov (.v 0), none⟩, ⟨none, .mov (.v 3), none⟩, ⟨none, .iaddr 1 (.r 0) (.r 1), none⟩, ⟨none, .load false 1 (.r 2), none⟩, ⟨none, .mov (.v 1), none⟩, ⟨some 5, .bin false .neq (.r 3) (.r 4), none⟩])
  (.cond (.v 5) (.seq (.region false [] [⟨some 2, .mov (.c (.int .i64 (-1))), none⟩])
  .ret) .skip))
  (.region false [] [⟨none, .mov (.v 1), none⟩, ⟨none, .bin false .add (.r 0) (.c (.int .i64 1)), none⟩, ⟨some 1, .mov (.r 1), none⟩])))
  (.region false [] [⟨none, .mov (.v 3), none⟩, ⟨none, .bin false .add (.r 0) (.c (.int .i64 1)), none⟩, ⟨some 3, .mov (.r 1), none⟩]))))))
  (.seq (.region false [] [⟨none, .mov (.v 1), none⟩, ⟨some 2, .mov (.r 0), none⟩])
  .ret))),
  [.v 2]⟩
def ir_laws_heldTransS : IFun := ⟨[0, 1, 4, 5, 9, 20, 29, 38],
  (.seq (.region false [] [⟨some 2, .mov (.c (.int .i64 0)), none⟩])
  (.seq (.seq (.region false [] [⟨some 3, .mov (.c (.int .i64 0)), none⟩])
  (.block 0 (.loop [true, true, false, true, false, false, false, false] (.seq (.seq (.region false [] [⟨none, .mov (.v 3), none⟩, ⟨none, .mov (.v 0), none⟩, ⟨none, .len false (.r 1), none⟩, ⟨some 4, .bin false .lss (.r 0) (.r 2), none⟩])
  (.cond (.v 4) .skip (.exit 0)))
  (.seq (.block 1 (.seq (.region false [] [⟨none, .mov (.v 0), none⟩, ⟨none, .mov (.v 3), none⟩, ⟨none, .iaddr 3 (.r 0) (.r 1), none⟩, ⟨none, .faddr 0 (.r 2), none⟩, ⟨none, .load false 1 (.r 3), none⟩, ⟨none, .mov (.v 1), none⟩, ⟨none, .call false f_laws_heldIntS [(.r 4), (.r 5)], none⟩, ⟨some 1, .mov (.r 6), none⟩])
  (.seq (.seq (.region false [] [⟨none, .mov (.v 1), none⟩, ⟨some 5, .bin false .lss (.r 0) (.c (.int .i64 0)), none⟩])
  (.cond (.v 5) (.seq (.region false [] [⟨some 2, .mov (.c (.int .i64 (-1))), none⟩])
  .ret) .skip))
  (.seq (.region false [] [⟨none, .mov (.v 0), none⟩, ⟨none, .mov (.v 3), none⟩, ⟨none, .iaddr 3 (.r 0) (.r 1), none⟩, ⟨none, .faddr 1 (.r 2), none⟩, ⟨none, .load false 1 (.r 3), none⟩, ⟨none, .mov (.v 1), none⟩, ⟨none, .call false f_laws_heldIntS [(.r 4), (.r 5)], none⟩, ⟨some 1, .mov (.r 6), none⟩])
  (.seq (.seq (.region false [] [⟨none, .mov (.v 1), none⟩, ⟨some 6, .bin false .lss (.r 0) (.c (.int .i64 0)), none⟩])
  (.cond (.v 6) (.seq (.region false [] [⟨some 2, .mov (.c (.int .i64 (-1))), none⟩])
  .ret) .skip))
  (.seq (.region false [] [⟨none, .mov (.v 0), none⟩, ⟨none, .mov (.v 3), none⟩, ⟨none, .iaddr 3 (.r 0) (.r 1), none⟩, ⟨none, .faddr 2 (.r 2), none⟩, ⟨none, .load false 1 (.r 3), none⟩, ⟨none, .mov (.v 1), none⟩, ⟨none, .call false f_laws_heldIntS [(.r 4), (.r 5)], none⟩, ⟨some 1, .mov (.r 6), none⟩])
  (.seq (.region false [] [⟨none, .mov (.v 1), none⟩, ⟨some 7, .bin false .lss (.r 0) (.c (.int .i64 0)), none⟩])
  (.cond (.v 7) (.seq (.region false [] [⟨some 2, .mov (.c (.int .i64 (-1))), none⟩])
  .ret) .skip))))))))
  (.region false [] [⟨none, .mov (.v 3), none⟩, ⟨none, .bin false .add (.r 0) (.c (.int .i64 1)), none⟩, ⟨some 3, .mov (.r 1), none⟩]))))))
  (.seq (.region false [] [⟨none, .mov (.v 1), none⟩, ⟨some 2, .mov (.r 0), none⟩])
  .ret))),
  [.v 2]⟩
def ir_laws_heldNet : IFun := ⟨[0, 1, 2, 4, 10],
  (.seq (.region false [] [⟨some 2, .box t_impl_Net 2 (.v 0), none⟩, ⟨some 3, .mov (.c (.int .i64 0)), none⟩])
  (.seq (.region false [] [⟨none, .faddr 1 (.v 2), none⟩, ⟨none, .load false 1 (.r 0), none⟩, ⟨none, .mov (.v 1), none⟩, ⟨none, .call false f_laws_heldTransS [(.r 1), (.r 2)], none⟩, ⟨some 1, .mov (.r 3), none⟩])
  (.seq (.seq (.region false [] [⟨none, .mov (.v 1), none⟩, ⟨some 4, .bin false .lss (.r 0) (.c (.int .i64 0)), none⟩])
  (.cond (.v 4) (.seq (.region false [] [⟨some 3, .mov (.c (.int .i64 (-1))), none⟩])
  .ret) .skip))
  (.seq (.region false [] [⟨none, .mov (.v 1), none⟩, ⟨some 3, .mov (.r 0), none⟩])
  .ret)))),
  [.v 3]⟩
def ir_laws_heldFlow : IFun := ⟨[0, 1, 2, 4, 10],
  (.seq (.region false [] [⟨some 2, .box t_impl_Flow 4 (.v 0), none⟩, ⟨some 3, .mov (.c (.int .i64 0)), none⟩])
  (.seq (.region false [] [⟨none, .faddr 0 (.v 2), none⟩, ⟨none, .load true 2 (.r 0), none⟩, ⟨none, .mov (.v 1), none⟩, ⟨none, .call false f_laws_heldNet [(.r 1), (.r 2)], none⟩, ⟨some 1, .mov (.r 3), none⟩])
  (.seq (.seq (.region false [] [⟨none, .mov (.v 1), none⟩, ⟨some 4, .bin false .lss (.r 0) (.c (.int .i64 0)), none⟩])
  (.cond (.v 4) (.seq (.region false [] [⟨some 3, .mov (.c (.int .i64 (-1))), none⟩])
  .ret) .skip))
  (.seq (.region false [] [⟨none, .mov (.v 1), none⟩, ⟨some 3, .mov (.r 0), none⟩])
  .ret)))),
  [.v 3]⟩
def ir_laws_FnExactTreeFlow : IFun := ⟨[0, 2, 3, 4, 5, 6, 7, 8, 9, 10, 11, 12, 13, 14, 15, 16, 21, 51, 56, 78, 89, 94, 97, 119, 124, 129, 132],
  (.seq (.region false [] [⟨some 1, .mov (.c (.bool false)), none⟩])
  (.seq (.region false [] [⟨some 2, .mov (.c (.int .i64 1048576)), none⟩])
  (.seq (.region false [] [⟨none, .mov (.v 0), none⟩, ⟨none, .mov (.v 2), none⟩, ⟨none, .call false f_laws_szBranchS [(.r 0), (.r 1)], none⟩, ⟨some 2, .mov (.r 2), none⟩])
  (.seq (.seq (.region false [] [⟨none, .mov (.v 2), none⟩, ⟨some 16, .bin false .lss (.r 0) (.c (.int .i64 0)), none⟩])
  (.cond (.v 16) (.seq (.region false [] [⟨some 1, .mov (.c (.bool true)), none⟩])
  .ret) .skip))
  (.seq (.region false [] [⟨none, .mov (.v 0), none⟩, ⟨none, .call false f_laws_toBranchS [(.r 0)], none⟩, ⟨none, .call false f_spec_TreeFlow [(.r 1)], none⟩, ⟨none, .mov (.r 2), none⟩, ⟨none, .extract (.r 3) 0, none⟩, ⟨none, .extract (.r 3) 1, none⟩, ⟨none, .extract (.r 3) 2, none⟩, ⟨some 3, .alloc t_impl_Flow [(.int .i64 0), (.nil false 3), (.int .i64 0), (.int .i64 0)], none⟩, ⟨none, .store 4 (.v 3) (.r 4), none⟩, ⟨some 4, .mov (.r 5), none⟩, ⟨some 5, .mov (.r 6), none⟩])
  (.seq (.region false [] [⟨none, .mov (.v 0), none⟩, ⟨none, .call false f_laws_toBranchS [(.r 0)], none⟩, ⟨some 6, .mov (.r 1), none⟩])
  (.seq (.region false [] [⟨none, .mov (.v 6), none⟩, ⟨none, .call false f_impl_TreeFlow [(.r 0)], none⟩, ⟨none, .mov (.r 1), none⟩, ⟨none, .extract (.r 2) 0, none⟩, ⟨none, .extract (.r 2) 1, none⟩, ⟨none, .extract (.r 2) 2, none⟩, ⟨some 7, .alloc t_impl_Flow [(.int .i64 0), (.nil false 3), (.int .i64 0), (.int .i64 0)], none⟩, ⟨none, .store 4 (.v 7) (.r 3), none⟩, ⟨some 8, .mov (.r 4), none⟩, ⟨some 9, .mov (.r 5), none⟩])
  (.seq (.seq (.region false [] [⟨none, .load true 4 (.v 7), none⟩, ⟨none, .load true 4 (.v 3), none⟩, ⟨none, .call false f_laws_eqFlow [(.r 0), (.r 1)], none⟩, ⟨none, .not (.r 2), none⟩, ⟨none, .mov (.r 3), none⟩, ⟨none, .mov (.v 8), some (4, false)⟩, ⟨none, .mov (.v 4), some (4, false)⟩, ⟨none, .call false f_laws_eqIntS [(.r 5), (.r 6)], some (4, false)⟩, ⟨none, .not (.r 7), some (4, false)⟩, ⟨none, .pick (.r 4) (.c (.bool true)) (.r 8), none⟩, ⟨none, .mov (.r 9), none⟩, ⟨none, .mov (.v 9), some (10, false)⟩, ⟨none, .mov (.v 5), some (10, false)⟩, ⟨none, .bin true .neq (.r 11) (.r 12), some (10, false)⟩, ⟨some 17, .pick (.r 10) (.c (.bool true)) (.r 13), none⟩])
  (.cond (.v 17) (.seq (.region false [] [⟨some 1, .mov (.c (.bool false)), none⟩])
  .ret) .skip))
  (.seq (.seq (.region false [] [⟨none, .mov (.v 6), none⟩, ⟨none, .mov (.v 0), none⟩, ⟨none, .call false f_laws_toBranchS [(.r 1)], none⟩, ⟨none, .call false f_laws_eqBranchS [(.r 0), (.r 2)], none⟩, ⟨some 18, .not (.r 3), none⟩])
  (.cond (.v 18) (.seq (.region false [] [⟨some 1, .mov (.c (.bool false)), none⟩])
  .ret) .skip))
  (.seq (.region false [] [⟨some 10, .mov (.c (.int .i64 1)), none⟩])
  (.seq (.region false [] [⟨none, .mov (.v 6), none⟩, ⟨none, .mov (.v 10), none⟩, ⟨none, .callm f_laws_markBranchS [(.r 0), (.r 1)], none⟩, ⟨some 10, .mov (.r 2), none⟩])
  (.seq (.seq (.region false [] [⟨none, .mov (.v 10), none⟩, ⟨none, .bin false .lss (.r 0) (.c (.int .i64 0)), none⟩, ⟨none, .mov (.r 1), none⟩, ⟨none, .load true 4 (.v 7), some (2, false)⟩, ⟨none, .load true 4 (.v 3), some (2, false)⟩, ⟨none, .call false f_laws_eqFlow [(.r 3), (.r 4)], some (2, false)⟩, ⟨none, .not (.r 5), some (2, false)⟩, ⟨none, .pick (.r 2) (.c (.bool true)) (.r 6), none⟩, ⟨none, .mov (.r 7), none⟩, ⟨none, .mov (.v 8), some (8, false)⟩, ⟨none, .mov (.v 4), some (8, false)⟩, ⟨none, .call false f_laws_eqIntS [(.r 9), (.r 10)], some (8, false)⟩, ⟨none, .not (.r 11), some (8, false)⟩, ⟨none, .pick (.r 8) (.c (.bool true)) (.r 12), none⟩, ⟨none, .mov (.r 13), none⟩, ⟨none, .mov (.v 9), some (14, false)⟩, ⟨none, .mov (.v 5), some (14, false)⟩, ⟨none, .bin true .neq (.r 15) (.r 16), some (14, false)⟩, ⟨some 19, .pick (.r 14) (.c (.bool true)) (.r 17), none⟩])
  (.cond (.v 19) (.seq (.region false [] [⟨some 1, .mov (.c (.bool false)), none⟩])
  .ret) .skip))
  (.seq (.region false [] [⟨some 11, .mov (.c (.int .i64 1)), none⟩])
  (.seq (.region false [] [⟨none, .load true 4 (.v 7), none⟩, ⟨none, .mov (.v 11), none⟩, ⟨none, .callm f_laws_markFlow [(.r 0), (.r 1)], none⟩, ⟨some 11, .mov (.r 2), none⟩])
  (.seq (.region false [] [⟨none, .mov (.v 8), none⟩, ⟨none, .mov (.v 11), none⟩, ⟨none, .callm f_laws_markIntS [(.r 0), (.r 1)], none⟩, ⟨some 11, .mov (.r 2), none⟩])
  (.seq (.region false [] [⟨some 12, .mov (.c (.int .i64 1)), none⟩])
  (.seq (.region false [] [⟨none, .load true 4 (.v 7), none⟩, ⟨none, .mov (.v 12), none⟩, ⟨none, .call false f_laws_heldFlow [(.r 0), (.r 1)], none⟩, ⟨some 12, .mov (.r 2), none⟩])
  (.seq (.seq (.region false [] [⟨none, .mov (.v 12), none⟩, ⟨some 20, .bin false .lss (.r 0) (.c (.int .i64 0)), none⟩])
  (.cond (.v 20) (.seq (.region false [] [⟨some 1, .mov (.c (.bool false)), none⟩])
  .ret) .skip))
  (.seq (.region false [] [⟨none, .mov (.v 8), none⟩, ⟨none, .mov (.v 12), none⟩, ⟨none, .call false f_laws_heldIntS [(.r 0), (.r 1)], none⟩, ⟨some 12, .mov (.r 2), none⟩])
  (.seq (.seq (.region false [] [⟨none, .mov (.v 12), none⟩, ⟨some 21, .bin false .lss (.r 0) (.c (.int .i64 0)), none⟩])
  (.cond (.v 21) (.seq (.region false [] [⟨some 1, .mov (.c (.bool false)), none⟩])
  .ret) .skip))
  (.seq (.seq (.region false [] [⟨none, .mov (.v 12), none⟩, ⟨none, .mov (.v 11), none⟩, ⟨some 22, .bin false .neq (.r 0) (.r 1), none⟩])
  (.cond (.v 22) (.seq (.region false [] [⟨some 1, .mov (.c (.bool false)), none⟩])
  .ret) .skip))
  (.seq (.region false [] [⟨none, .mov (.v 0), none⟩, ⟨none, .call false f_laws_toBranchS [(.r 0)], none⟩, ⟨none, .call false f_impl_TreeFlow [(.r 1)], none⟩, ⟨none, .mov (.r 2), none⟩, ⟨none, .extract (.r 3) 0, none⟩, ⟨none, .extract (.r 3) 1, none⟩, ⟨none, .extract (.r 3) 2, none⟩, ⟨some 13, .alloc t_impl_Flow [(.int .i64 0), (.nil false 3), (.int .i64 0), (.int .i64 0)], none⟩, ⟨none, .store 4 (.v 13) (.r 4), none⟩, ⟨some 14, .mov (.r 5), none⟩, ⟨some 15, .mov (.r 6), none⟩])
  (.seq (.seq (.region false [] [⟨none, .load true 4 (.v 13), none⟩, ⟨none, .load true 4 (.v 3), none⟩, ⟨none, .call false f_laws_eqFlow [(.r 0), (.r 1)], none⟩, ⟨none, .not (.r 2), none⟩, ⟨none, .mov (.r 3), none⟩, ⟨none, .mov (.v 14), some (4, false)⟩, ⟨none, .mov (.v 4), some (4, false)⟩, ⟨none, .call false f_laws_eqIntS [(.r 5), (.r 6)], some (4, false)⟩, ⟨none, .not (.r 7), some (4, false)⟩, ⟨none, .pick (.r 4) (.c (.bool true)) (.r 8), none⟩, ⟨none, .mov (.r 9), none⟩, ⟨none, .mov (.v 15), some (10, false)⟩, ⟨none, .mov (.v 5), some (10, false)⟩, ⟨none, .bin true .neq (.r 11) (.r 12), some (10, false)⟩, ⟨some 23, .pick (.r 10) (.c (.bool true)) (.r 13), none⟩])
  (.cond (.v 23) (.seq (.region false [] [⟨some 1, .mov (.c (.bool false)), none⟩])
  .ret) .skip))
  (.seq (.region false [] [⟨some 12, .mov (.c (.int .i64 1)), none⟩])
  (.seq (.region false [] [⟨none, .load true 4 (.v 7), none⟩, ⟨none, .mov (.v 12), none⟩, ⟨none, .call false f_laws_heldFlow [(.r 0), (.r 1)], none⟩, ⟨some 12, .mov (.r 2), none⟩])
  (.seq (.seq (.region false [] [⟨none, .mov (.v 12), none⟩, ⟨some 24, .bin false .lss (.r 0) (.c (.int .i64 0)), none⟩])
  (.cond (.v 24) (.seq (.region false [] [⟨some 1, .mov (.c (.bool false)), none⟩])
  .ret) .skip))
  (.seq (.region false [] [⟨none, .mov (.v 8), none⟩, ⟨none, .mov (.v 12), none⟩, ⟨none, .call false f_laws_heldIntS [(.r 0), (.r 1)], none⟩, ⟨some 12, .mov (.r 2), none⟩])
  (.seq (.seq (.region false [] [⟨none, .mov (.v 12), none⟩, ⟨some 25, .bin false .lss (.r 0) (.c (.int .i64 0)), none⟩])
  (.cond (.v 25) (.seq (.region false [] [⟨some 1, .mov (.c (.bool false)), none⟩])
  .ret) .skip))
  (.seq (.seq (.region false [] [⟨none, .mov (.v 12), none⟩, ⟨none, .mov (.v 11), none⟩, ⟨some 26, .bin false .neq (.r 0) (.r 1), none⟩])
  (.cond (.v 26) (.seq (.region false [] [⟨some 1, .mov (.c (.bool false)), none⟩])
  .ret) .skip))
  (.seq (.region false [] [⟨some 1, .mov (.c (.bool true)), none⟩])
  .ret)))))))))))))))))))))))))))))),
  [.v 1]⟩
def tbl : List (FuncId × IFun) := [(f_laws_szBranchS, ir_laws_szBranchS), (f_laws_toBranch, ir_laws_toBranch), (f_laws_toBranchS, ir_laws_toBranchS), (f_spec_l1In, ir_spec_l1In), (f_spec_l11Good, ir_spec_l11Good), (f_spec_l11Build_trans, ir_spec_l11Build_trans), (f_spec_l11First, ir_spec_l11First), (f_spec_l11Build_part, ir_spec_l11Build_part), (f_spec_l1Places, ir_spec_l1Places), (f_spec_l1Rising, ir_spec_l1Rising), (f_spec_GoodNet, ir_spec_GoodNet), (f_spec_l3Forward, ir_spec_l3Forward), (f_spec_l3Back, ir_spec_l3Back), (f_spec_l3Both, ir_spec_l3Both), (f_spec_OnWay, ir_spec_OnWay), (f_spec_l1Has, ir_spec_l1Has), (f_spec_GoodFlow, ir_spec_GoodFlow), (f_spec_TreeFlow, ir_spec_TreeFlow), (f_impl_within, ir_impl_within), (f_impl_isTree, ir_impl_isTree), (f_impl_parsed, ir_impl_parsed), (f_impl_treeBuild_trans, ir_impl_treeBuild_trans), (f_impl_treeBuild_place, ir_impl_treeBuild_place), (f_impl_treeBuild_build, ir_impl_treeBuild_build), (f_impl_increasing, ir_impl_increasing), (f_impl_allWithin, ir_impl_allWithin), (f_impl_arePlaces, ir_impl_arePlaces), (f_impl_GoodNet_1, ir_impl_GoodNet_1), (f_slices_IndexFunc_sl_impl_Trans_impl_Trans, ir_slices_IndexFunc_sl_impl_Trans_impl_Trans), (f_slices_ContainsFunc_sl_impl_Trans_impl_Trans, ir_slices_ContainsFunc_sl_impl_Trans_impl_Trans), (f_impl_GoodNet, ir_impl_GoodNet), (f_slices_Index_sl_int_int, ir_slices_Index_sl_int_int), (f_slices_Contains_sl_int_int, ir_slices_Contains_sl_int_int), (f_impl_reachedFrom_1, ir_impl_reachedFrom_1), (f_slices_IndexFunc_sl_int_int, ir_slices_IndexFunc_sl_int_int), (f_slices_ContainsFunc_sl_int_int, ir_slices_ContainsFunc_sl_int_int), (f_impl_reachedFrom, ir_impl_reachedFrom), (f_impl_bothOf, ir_impl_bothOf), (f_impl_onWay, ir_impl_onWay), (f_impl_GoodFlow, ir_impl_GoodFlow), (f_impl_TreeFlow, ir_impl_TreeFlow), (f_laws_eqIntS, ir_laws_eqIntS), (f_laws_eqTrans, ir_laws_eqTrans), (f_laws_eqTransS, ir_laws_eqTransS), (f_laws_eqNet, ir_laws_eqNet), (f_laws_eqFlow, ir_laws_eqFlow), (f_laws_eqBranch, ir_laws_eqBranch), (f_laws_eqBranchS, ir_laws_eqBranchS), (f_laws_markBranchS, ir_laws_markBranchS), (f_laws_markIntS, ir_laws_markIntS), (f_laws_markTransS, ir_laws_markTransS), (f_laws_markNet, ir_laws_markNet), (f_laws_markFlow, ir_laws_markFlow), (f_laws_heldIntS, ir_laws_heldIntS), (f_laws_heldTransS, ir_laws_heldTransS), (f_laws_heldNet, ir_laws_heldNet), (f_laws_heldFlow, ir_laws_heldFlow), (f_laws_FnExactTreeFlow, ir_laws_FnExactTreeFlow)]
def F (f : FuncId) : Option IFun := (tbl.find? fun p => p.1 == f).map (·.2)
def exts : List (FuncId × (List PV → Option PV)) := []
def ext (f : FuncId) : Option (List PV → Option PV) := (exts.find? fun p => p.1 == f).map (·.2)
noncomputable def C : Orc := lim F ext
theorem C_laws_szBranchS {args : List PV} {M : List Blk} {r : PV × List Blk} (h : W C M.length ir_laws_szBranchS.body ⟨start ir_laws_szBranchS args, M⟩ (Lv M.length ir_laws_szBranchS.results r)) : C f_laws_szBranchS args M = some r := call_of rfl rfl h
theorem C_laws_toBranch {args : List PV} {M : List Blk} {r : PV × List Blk} (h : W C M.length ir_laws_toBranch.body ⟨start ir_laws_toBranch args, M⟩ (Lv M.length ir_laws_toBranch.results r)) : C f_laws_toBranch args M = some r := call_of rfl rfl h
theorem C_laws_toBranchS {args : List PV} {M : List Blk} {r : PV × List Blk} (h : W C M.length ir_laws_toBranchS.body ⟨start ir_laws_toBranchS args, M⟩ (Lv M.length ir_laws_toBranchS.results r)) : C f_laws_toBranchS args M = some r := call_of rfl rfl h
theorem C_spec_l1In {args : List PV} {M : List Blk} {r : PV × List Blk} (h : W C M.length ir_spec_l1In.body ⟨start ir_spec_l1In args, M⟩ (Lv M.length ir_spec_l1In.results r)) : C f_spec_l1In args M = some r := call_of rfl rfl h
theorem C_spec_l11Good {args : List PV} {M : List Blk} {r : PV × List Blk} (h : W C M.length ir_spec_l11Good.body ⟨start ir_spec_l11Good args, M⟩ (Lv M.length ir_spec_l11Good.results r)) : C f_spec_l11Good args M = some r := call_of rfl rfl h
theorem C_spec_l11Build_trans {args : List PV} {M : List Blk} {r : PV × List Blk} (h : W C M.length ir_spec_l11Build_trans.body ⟨start ir_spec_l11Build_trans args, M⟩ (Lv M.length ir_spec_l11Build_trans.results r)) : C f_spec_l11Build_trans args M = some r := call_of rfl rfl h
theorem C_spec_l11First {args : List PV} {M : List Blk} {r : PV × List Blk} (h : W C M.length ir_spec_l11First.body ⟨start ir_spec_l11First args, M⟩ (Lv M.length ir_spec_l11First.results r)) : C f_spec_l11First args M = some r := call_of rfl rfl h
theorem C_spec_l11Build_part {args : List PV} {M : List Blk} {r : PV × List Blk} (h : W C M.length ir_spec_l11Build_part.body ⟨start ir_spec_l11Build_part args, M⟩ (Lv M.length ir_spec_l11Build_part.results r)) : C f_spec_l11Build_part args M = some r := call_of rfl rfl h
theorem C_spec_l1Places {args : List PV} {M : List Blk} {r : PV × List Blk} (h : W C M.length ir_spec_l1Places.body ⟨start ir_spec_l1Places args, M⟩ (Lv M.length ir_spec_l1Places.results r)) : C f_spec_l1Places args M = some r := call_of rfl rfl h
theorem C_spec_l1Rising {args : List PV} {M : List Blk} {r : PV × List Blk} (h : W C M.length ir_spec_l1Rising.body ⟨start ir_spec_l1Rising args, M⟩ (Lv M.length ir_spec_l1Rising.results r)) : C f_spec_l1Rising args M = some r := call_of rfl rfl h
theorem C_spec_GoodNet {args : List PV} {M : List Blk} {r : PV × List Blk} (h : W C M.length ir_spec_GoodNet.body ⟨start ir_spec_GoodNet args, M⟩ (Lv M.length ir_spec_GoodNet.results r)) : C f_spec_GoodNet args M = some r := call_of rfl rfl h
theorem C_spec_l3Forward {args : List PV} {M : List Blk} {r : PV × List Blk} (h : W C M.length ir_spec_l3Forward.body ⟨start ir_spec_l3Forward args, M⟩ (Lv M.length ir_spec_l3Forward.results r)) : C f_spec_l3Forward args M = some r := call_of rfl rfl h
theorem C_spec_l3Back {args : List PV} {M : List Blk} {r : PV × List Blk} (h : W C M.length ir_spec_l3Back.body ⟨start ir_spec_l3Back args, M⟩ (Lv M.length ir_spec_l3Back.results r)) : C f_spec_l3Back args M = some r := call_of rfl rfl h
theorem C_spec_l3Both {args : List PV} {M : List Blk} {r : PV × List Blk} (h : W C M.length ir_spec_l3Both.body ⟨start ir_spec_l3Both args, M⟩ (Lv M.length ir_spec_l3Both.results r)) : C f_spec_l3Both args M = some r := call_of rfl rfl h
theorem C_spec_OnWay {args : List PV} {M : List Blk} {r : PV × List Blk} (h : W C M.length ir_spec_OnWay.body ⟨start ir_spec_OnWay args, M⟩ (Lv M.length ir_spec_OnWay.results r)) : C f_spec_OnWay args M = some r := call_of rfl rfl h
theorem C_spec_l1Has {args : List PV} {M : List Blk} {r : PV × List Blk} (h : W C M.length ir_spec_l1Has.body ⟨start ir_spec_l1Has args, M⟩ (Lv M.length ir_spec_l1Has.results r)) : C f_spec_l1Has args M = some r := call_of rfl rfl h
theorem C_spec_GoodFlow {args : List PV} {M : List Blk} {r : PV × List Blk} (h : W C M.length ir_spec_GoodFlow.body ⟨start ir_spec_GoodFlow args, M⟩ (Lv M.length ir_spec_GoodFlow.results r)) : C f_spec_GoodFlow args M = some r := call_of rfl rfl h
theorem C_spec_TreeFlow {args : List PV} {M : List Blk} {r : PV × List Blk} (h : W C M.length ir_spec_TreeFlow.body ⟨start ir_spec_TreeFlow args, M⟩ (Lv M.length ir_spec_TreeFlow.results r)) : C f_spec_TreeFlow args M = some r := call_of rfl rfl h
theorem C_impl_within {args : List PV} {M : List Blk} {r : PV × List Blk} (h : W C M.length ir_impl_within.body ⟨start ir_impl_within args, M⟩ (Lv M.length ir_impl_within.results r)) : C f_impl_within args M = some r := call_of rfl rfl h
theorem C_impl_isTree {args : List PV} {M : List Blk} {r : PV × List Blk} (h : W C M.length ir_impl_isTree.body ⟨start ir_impl_isTree args, M⟩ (Lv M.length ir_impl_isTree.results r)) : C f_impl_isTree args M = some r := call_of rfl rfl h
theorem C_impl_parsed {args : List PV} {M : List Blk} {r : PV × List Blk} (h : W C M.length ir_impl_parsed.body ⟨start ir_impl_parsed args, M⟩ (Lv M.length ir_impl_parsed.results r)) : C f_impl_parsed args M = some r := call_of rfl rfl h
theorem C_impl_treeBuild_trans {args : List PV} {M : List Blk} {r : PV × List Blk} (h : W C M.length ir_impl_treeBuild_trans.body ⟨start ir_impl_treeBuild_trans args, M⟩ (Lv M.length ir_impl_treeBuild_trans.results r)) : C f_impl_treeBuild_trans args M = some r := call_of rfl rfl h
theorem C_impl_treeBuild_place {args : List PV} {M : List Blk} {r : PV × List Blk} (h : W C M.length ir_impl_treeBuild_place.body ⟨start ir_impl_treeBuild_place args, M⟩ (Lv M.length ir_impl_treeBuild_place.results r)) : C f_impl_treeBuild_place args M = some r := call_of rfl rfl h
theorem C_impl_treeBuild_build {args : List PV} {M : List Blk} {r : PV × List Blk} (h : W C M.length ir_impl_treeBuild_build.body ⟨start ir_impl_treeBuild_build args, M⟩ (Lv M.length ir_impl_treeBuild_build.results r)) : C f_impl_treeBuild_build args M = some r := call_of rfl rfl h
theorem C_impl_increasing {args : List PV} {M : List Blk} {r : PV × List Blk} (h : W C M.length ir_impl_increasing.body ⟨start ir_impl_increasing args, M⟩ (Lv M.length ir_impl_increasing.results r)) : C f_impl_increasing args M = some r := call_of rfl rfl h
theorem C_impl_allWithin {args : List PV} {M : List Blk} {r : PV × List Blk} (h : W C M.length ir_impl_allWithin.body ⟨start ir_impl_allWithin args, M⟩ (Lv M.length ir_impl_allWithin.results r)) : C f_impl_allWithin args M = some r := call_of rfl rfl h
theorem C_impl_arePlaces {args : List PV} {M : List Blk} {r : PV × List Blk} (h : W C M.length ir_impl_arePlaces.body ⟨start ir_impl_arePlaces args, M⟩ (Lv M.length ir_impl_arePlaces.results r)) : C f_impl_arePlaces args M = some r := call_of rfl rfl h
theorem C_impl_GoodNet_1 {args : List PV} {M : List Blk} {r : PV × List Blk} (h : W C M.length ir_impl_GoodNet_1.body ⟨start ir_impl_GoodNet_1 args, M⟩ (Lv M.length ir_impl_GoodNet_1.results r)) : C f_impl_GoodNet_1 args M = some r := call_of rfl rfl h
theorem C_slices_IndexFunc_sl_impl_Trans_impl_Trans {args : List PV} {M : List Blk} {r : PV × List Blk} (h : W C M.length ir_slices_IndexFunc_sl_impl_Trans_impl_Trans.body ⟨start ir_slices_IndexFunc_sl_impl_Trans_impl_Trans args, M⟩ (Lv M.length ir_slices_IndexFunc_sl_impl_Trans_impl_Trans.results r)) : C f_slices_IndexFunc_sl_impl_Trans_impl_Trans args M = some r := call_of rfl rfl h
theorem C_slices_ContainsFunc_sl_impl_Trans_impl_Trans {args : List PV} {M : List Blk} {r : PV × List Blk} (h : W C M.length ir_slices_ContainsFunc_sl_impl_Trans_impl_Trans.body ⟨start ir_slices_ContainsFunc_sl_impl_Trans_impl_Trans args, M⟩ (Lv M.length ir_slices_ContainsFunc_sl_impl_Trans_impl_Trans.results r)) : C f_slices_ContainsFunc_sl_impl_Trans_impl_Trans args M = some r := call_of rfl rfl h
theorem C_impl_GoodNet {args : List PV} {M : List Blk} {r : PV × List Blk} (h : W C M.length ir_impl_GoodNet.body ⟨start ir_impl_GoodNet args, M⟩ (Lv M.length ir_impl_GoodNet.results r)) : C f_impl_GoodNet args M = some r := call_of rfl rfl h
theorem C_slices_Index_sl_int_int {args : List PV} {M : List Blk} {r : PV × List Blk} (h : W C M.length ir_slices_Index_sl_int_int.body ⟨start ir_slices_Index_sl_int_int args, M⟩ (Lv M.length ir_slices_Index_sl_int_int.results r)) : C f_slices_Index_sl_int_int args M = some r := call_of rfl rfl h
theorem C_slices_Contains_sl_int_int {args : List PV} {M : List Blk} {r : PV × List Blk} (h : W C M.length ir_slices_Contains_sl_int_int.body ⟨start ir_slices_Contains_sl_int_int args, M⟩ (Lv M.length ir_slices_Contains_sl_int_int.results r)) : C f_slices_Contains_sl_int_int args M = some r := call_of rfl rfl h
theorem C_impl_reachedFrom_1 {args : List PV} {M : List Blk} {r : PV × List Blk} (h : W C M.length ir_impl_reachedFrom_1.body ⟨start ir_impl_reachedFrom_1 args, M⟩ (Lv M.length ir_impl_reachedFrom_1.results r)) : C f_impl_reachedFrom_1 args M = some r := call_of rfl rfl h
theorem C_slices_IndexFunc_sl_int_int {args : List PV} {M : List Blk} {r : PV × List Blk} (h : W C M.length ir_slices_IndexFunc_sl_int_int.body ⟨start ir_slices_IndexFunc_sl_int_int args, M⟩ (Lv M.length ir_slices_IndexFunc_sl_int_int.results r)) : C f_slices_IndexFunc_sl_int_int args M = some r := call_of rfl rfl h
theorem C_slices_ContainsFunc_sl_int_int {args : List PV} {M : List Blk} {r : PV × List Blk} (h : W C M.length ir_slices_ContainsFunc_sl_int_int.body ⟨start ir_slices_ContainsFunc_sl_int_int args, M⟩ (Lv M.length ir_slices_ContainsFunc_sl_int_int.results r)) : C f_slices_ContainsFunc_sl_int_int args M = some r := call_of rfl rfl h
theorem C_impl_reachedFrom {args : List PV} {M : List Blk} {r : PV × List Blk} (h : W C M.length ir_impl_reachedFrom.body ⟨start ir_impl_reachedFrom args, M⟩ (Lv M.length ir_impl_reachedFrom.results r)) : C f_impl_reachedFrom args M = some r := call_of rfl rfl h
theorem C_impl_bothOf {args : List PV} {M : List Blk} {r : PV × List Blk} (h : W C M.length ir_impl_bothOf.body ⟨start ir_impl_bothOf args, M⟩ (Lv M.length ir_impl_bothOf.results r)) : C f_impl_bothOf args M = some r := call_of rfl rfl h
theorem C_impl_onWay {args : List PV} {M : List Blk} {r : PV × List Blk} (h : W C M.length ir_impl_onWay.body ⟨start ir_impl_onWay args, M⟩ (Lv M.length ir_impl_onWay.results r)) : C f_impl_onWay args M = some r := call_of rfl rfl h
theorem C_impl_GoodFlow {args : List PV} {M : List Blk} {r : PV × List Blk} (h : W C M.length ir_impl_GoodFlow.body ⟨start ir_impl_GoodFlow args, M⟩ (Lv M.length ir_impl_GoodFlow.results r)) : C f_impl_GoodFlow args M = some r := call_of rfl rfl h
theorem C_impl_TreeFlow {args : List PV} {M : List Blk} {r : PV × List Blk} (h : W C M.length ir_impl_TreeFlow.body ⟨start ir_impl_TreeFlow args, M⟩ (Lv M.length ir_impl_TreeFlow.results r)) : C f_impl_TreeFlow args M = some r := call_of rfl rfl h
theorem C_laws_eqIntS {args : List PV} {M : List Blk} {r : PV × List Blk} (h : W C M.length ir_laws_eqIntS.body ⟨start ir_laws_eqIntS args, M⟩ (Lv M.length ir_laws_eqIntS.results r)) : C f_laws_eqIntS args M = some r := call_of rfl rfl h
theorem C_laws_eqTrans {args : List PV} {M : List Blk} {r : PV × List Blk} (h : W C M.length ir_laws_eqTrans.body ⟨start ir_laws_eqTrans args, M⟩ (Lv M.length ir_laws_eqTrans.results r)) : C f_laws_eqTrans args M = some r := call_of rfl rfl h
theorem C_laws_eqTransS {args : List PV} {M : List Blk} {r : PV × List Blk} (h : W C M.length ir_laws_eqTransS.body ⟨start ir_laws_eqTransS args, M⟩ (Lv M.length ir_laws_eqTransS.results r)) : C f_laws_eqTransS args M = some r := call_of rfl rfl h
theorem C_laws_eqNet {args : List PV} {M : List Blk} {r : PV × List Blk} (h : W C M.length ir_laws_eqNet.body ⟨start ir_laws_eqNet args, M⟩ (Lv M.length ir_laws_eqNet.results r)) : C f_laws_eqNet args M = some r := call_of rfl rfl h
theorem C_laws_eqFlow {args : List PV} {M : List Blk} {r : PV × List Blk} (h : W C M.length ir_laws_eqFlow.body ⟨start ir_laws_eqFlow args, M⟩ (Lv M.length ir_laws_eqFlow.results r)) : C f_laws_eqFlow args M = some r := call_of rfl rfl h
theorem C_laws_eqBranch {args : List PV} {M : List Blk} {r : PV × List Blk} (h : W C M.length ir_laws_eqBranch.body ⟨start ir_laws_eqBranch args, M⟩ (Lv M.length ir_laws_eqBranch.results r)) : C f_laws_eqBranch args M = some r := call_of rfl rfl h
theorem C_laws_eqBranchS {args : List PV} {M : List Blk} {r : PV × List Blk} (h : W C M.length ir_laws_eqBranchS.body ⟨start ir_laws_eqBranchS args, M⟩ (Lv M.length ir_laws_eqBranchS.results r)) : C f_laws_eqBranchS args M = some r := call_of rfl rfl h
theorem C_laws_markBranchS {args : List PV} {M : List Blk} {r : PV × List Blk} (h : W C M.length ir_laws_markBranchS.body ⟨start ir_laws_markBranchS args, M⟩ (Lv M.length ir_laws_markBranchS.results r)) : C f_laws_markBranchS args M = some r := call_of rfl rfl h
theorem C_laws_markIntS {args : List PV} {M : List Blk} {r : PV × List Blk} (h : W C M.length ir_laws_markIntS.body ⟨start ir_laws_markIntS args, M⟩ (Lv M.length ir_laws_markIntS.results r)) : C f_laws_markIntS args M = some r := call_of rfl rfl h
theorem C_laws_markTransS {args : List PV} {M : List Blk} {r : PV × List Blk} (h : W C M.length ir_laws_markTransS.body ⟨start ir_laws_markTransS args, M⟩ (Lv M.length ir_laws_markTransS.results r)) : C f_laws_markTransS args M = some r := call_of rfl rfl h
theorem C_laws_markNet {args : List PV} {M : List Blk} {r : PV × List Blk} (h : W C M.length ir_laws_markNet.body ⟨start ir_laws_markNet args, M⟩ (Lv M.length ir_laws_markNet.results r)) : C f_laws_markNet args M = some r := call_of rfl rfl h
theorem C_laws_markFlow {args : List PV} {M : List Blk} {r : PV × List Blk} (h : W C M.length ir_laws_markFlow.body ⟨start ir_laws_markFlow args, M⟩ (Lv M.length ir_laws_markFlow.results r)) : C f_laws_markFlow args M = some r := call_of rfl rfl h
theorem C_laws_heldIntS {args : List PV} {M : List Blk} {r : PV × List Blk} (h : W C M.length ir_laws_heldIntS.body ⟨start ir_laws_heldIntS args, M⟩ (Lv M.length ir_laws_heldIntS.results r)) : C f_laws_heldIntS args M = some r := call_of rfl rfl h
theorem C_laws_heldTransS {args : List PV} {M : List Blk} {r : PV × List Blk} (h : W C M.length ir_laws_heldTransS.body ⟨start ir_laws_heldTransS args, M⟩ (Lv M.length ir_laws_heldTransS.results r)) : C f_laws_heldTransS args M = some r := call_of rfl rfl h
theorem C_laws_heldNet {args : List PV} {M : List Blk} {r : PV × List Blk} (h : W C M.length ir_laws_heldNet.body ⟨start ir_laws_heldNet args, M⟩ (Lv M.length ir_laws_heldNet.results r)) : C f_laws_heldNet args M = some r := call_of rfl rfl h
theorem C_laws_heldFlow {args : List PV} {M : List Blk} {r : PV × List Blk} (h : W C M.length ir_laws_heldFlow.body ⟨start ir_laws_heldFlow args, M⟩ (Lv M.length ir_laws_heldFlow.results r)) : C f_laws_heldFlow args M = some r := call_of rfl rfl h
theorem C_laws_FnExactTreeFlow {args : List PV} {M : List Blk} {r : PV × List Blk} (h : W C M.length ir_laws_FnExactTreeFlow.body ⟨start ir_laws_FnExactTreeFlow args, M⟩ (Lv M.length ir_laws_FnExactTreeFlow.results r)) : C f_laws_FnExactTreeFlow args M = some r := call_of rfl rfl h
end Go.Proofs.Ytkkifebmicbbaaa.Pi
