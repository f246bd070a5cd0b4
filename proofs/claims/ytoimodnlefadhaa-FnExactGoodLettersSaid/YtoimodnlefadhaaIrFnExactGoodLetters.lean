/- The forms of the functions that the law reaches, and their oracle. Definitions alone; no condition. -/
import Derived.Test.YtoimodnlefadhaaPiExt
namespace Go.Proofs.Ytoimodnlefadhaa.Pi
open Go
set_option linter.all false
abbrev t_int : TypeId := 3
abbrev t_laws_Net : TypeId := 24
abbrev t_impl_Net : TypeId := 30
abbrev t_laws_Trans : TypeId := 102
abbrev t_impl_Trans : TypeId := 104
abbrev f_laws_szIntS : FuncId := 108
abbrev f_laws_szTrans : FuncId := 72
abbrev f_laws_szTransS : FuncId := 43
abbrev f_laws_szNet : FuncId := 9
abbrev f_laws_toIntS : FuncId := 12
abbrev f_laws_toTrans : FuncId := 75
abbrev f_laws_toTransS : FuncId := 46
abbrev f_laws_toNet : FuncId := 11
abbrev f_spec_l1In : FuncId := 66
abbrev f_spec_l1Places : FuncId := 73
abbrev f_spec_l1Rising : FuncId := 74
abbrev f_spec_GoodNet : FuncId := 44
abbrev f_spec_l1All : FuncId := 45
abbrev f_spec_GoodLetters : FuncId := 10
abbrev f_impl_within : FuncId := 76
abbrev f_impl_increasing : FuncId := 110
abbrev f_impl_allWithin : FuncId := 48
abbrev f_impl_arePlaces : FuncId := 79
abbrev f_impl_GoodNet_1 : FuncId := 78
abbrev f_slices_IndexFunc_sl_impl_Trans_impl_Trans : FuncId := 109
abbrev f_slices_ContainsFunc_sl_impl_Trans_impl_Trans : FuncId := 77
abbrev f_impl_GoodNet : FuncId := 47
abbrev f_impl_GoodLetters : FuncId := 13
abbrev f_laws_eqIntS : FuncId := 15
abbrev f_laws_eqTrans : FuncId := 80
abbrev f_laws_eqTransS : FuncId := 49
abbrev f_laws_eqNet : FuncId := 14
abbrev f_laws_FnExactGoodLetters : FuncId := 3
def ir_laws_szIntS : IFun := ⟨[0, 1, 4, 10],
  (.seq (.region false [] [⟨some 2, .mov (.c (.int .i64 0)), none⟩])
  (.seq (.region false [] [⟨none, .mov (.v 1), none⟩, ⟨none, .mov (.v 0), none⟩, ⟨none, .len false (.r 1), none⟩, ⟨none, .bin false .sub (.r 0) (.r 2), none⟩, ⟨some 1, .mov (.r 3), none⟩])
  (.seq (.seq (.region false [] [⟨none, .mov (.v 1), none⟩, ⟨some 3, .bin false .lss (.r 0) (.c (.int .i64 0)), none⟩])
  (.cond (.v 3) (.seq (.region false [] [⟨some 2, .mov (.c (.int .i64 (-1))), none⟩])
  .ret) .skip))
  (.seq (.region false [] [⟨none, .mov (.v 1), none⟩, ⟨some 2, .mov (.r 0), none⟩])
  .ret)))),
  [.v 2]⟩
def ir_laws_szTrans : IFun := ⟨[0, 1, 2, 4, 10, 16, 22],
  (.seq (.region false [] [⟨some 2, .box t_laws_Trans 3 (.v 0), none⟩, ⟨some 3, .mov (.c (.int .i64 0)), none⟩])
  (.seq (.region false [] [⟨none, .faddr 0 (.v 2), none⟩, ⟨none, .load false 1 (.r 0), none⟩, ⟨none, .mov (.v 1), none⟩, ⟨none, .call false f_laws_szIntS [(.r 1), (.r 2)], none⟩, ⟨some 1, .mov (.r 3), none⟩])
  (.seq (.seq (.region false [] [⟨none, .mov (.v 1), none⟩, ⟨some 4, .bin false .lss (.r 0) (.c (.int .i64 0)), none⟩])
  (.cond (.v 4) (.seq (.region false [] [⟨some 3, .mov (.c (.int .i64 (-1))), none⟩])
  .ret) .skip))
  (.seq (.region false [] [⟨none, .faddr 1 (.v 2), none⟩, ⟨none, .load false 1 (.r 0), none⟩, ⟨none, .mov (.v 1), none⟩, ⟨none, .call false f_laws_szIntS [(.r 1), (.r 2)], none⟩, ⟨some 1, .mov (.r 3), none⟩])
  (.seq (.seq (.region false [] [⟨none, .mov (.v 1), none⟩, ⟨some 5, .bin false .lss (.r 0) (.c (.int .i64 0)), none⟩])
  (.cond (.v 5) (.seq (.region false [] [⟨some 3, .mov (.c (.int .i64 (-1))), none⟩])
  .ret) .skip))
  (.seq (.region false [] [⟨none, .faddr 2 (.v 2), none⟩, ⟨none, .load false 1 (.r 0), none⟩, ⟨none, .mov (.v 1), none⟩, ⟨none, .call false f_laws_szIntS [(.r 1), (.r 2)], none⟩, ⟨some 1, .mov (.r 3), none⟩])
  (.seq (.seq (.region false [] [⟨none, .mov (.v 1), none⟩, ⟨some 6, .bin false .lss (.r 0) (.c (.int .i64 0)), none⟩])
  (.cond (.v 6) (.seq (.region false [] [⟨some 3, .mov (.c (.int .i64 (-1))), none⟩])
  .ret) .skip))
  (.seq (.region false [] [⟨none, .mov (.v 1), none⟩, ⟨some 3, .mov (.r 0), none⟩])
  .ret)))))))),
  [.v 3]⟩
def ir_laws_szTransS : IFun := ⟨[0, 1, 4, 5, 11, 15, 25],
  (.seq (.region false [] [⟨some 2, .mov (.c (.int .i64 0)), none⟩])
  (.seq (.region false [] [⟨none, .mov (.v 1), none⟩, ⟨none, .mov (.v 0), none⟩, ⟨none, .len false (.r 1), none⟩, ⟨none, .bin false .sub (.r 0) (.r 2), none⟩, ⟨some 1, .mov (.r 3), none⟩])
  (.seq (.seq (.region false [] [⟨none, .mov (.v 1), none⟩, ⟨some 4, .bin false .lss (.r 0) (.c (.int .i64 0)), none⟩])
  (.cond (.v 4) (.seq (.region false [] [⟨some 2, .mov (.c (.int .i64 (-1))), none⟩])
  .ret) .skip))
  (.seq (.seq (.region false [] [⟨some 3, .mov (.c (.int .i64 0)), none⟩])
  (.block 0 (.loop [true, true, false, true, false, false, false] (.seq (.seq (.region false [] [⟨none, .mov (.v 3), none⟩, ⟨none, .mov (.v 0), none⟩, ⟨none, .len false (.r 1), none⟩, ⟨some 5, .bin false .lss (.r 0) (.r 2), none⟩])
  (.cond (.v 5) .skip (.exit 0)))
  (.seq (.block 1 (.seq (.region false [] [⟨none, .mov (.v 0), none⟩, ⟨none, .mov (.v 3), none⟩, ⟨none, .iaddr 3 (.r 0) (.r 1), none⟩, ⟨none, .load true 3 (.r 2), none⟩, ⟨none, .mov (.v 1), none⟩, ⟨none, .call false f_laws_szTrans [(.r 3), (.r 4)], none⟩, ⟨some 1, .mov (.r 5), none⟩])
  (.seq (.region false [] [⟨none, .mov (.v 1), none⟩, ⟨some 6, .bin false .lss (.r 0) (.c (.int .i64 0)), none⟩])
  (.cond (.v 6) (.seq (.region false [] [⟨some 2, .mov (.c (.int .i64 (-1))), none⟩])
  .ret) .skip))))
  (.region false [] [⟨none, .mov (.v 3), none⟩, ⟨none, .bin false .add (.r 0) (.c (.int .i64 1)), none⟩, ⟨some 3, .mov (.r 1), none⟩]))))))
  (.seq (.region false [] [⟨none, .mov (.v 1), none⟩, ⟨some 2, .mov (.r 0), none⟩])
  .ret))))),
  [.v 2]⟩
def ir_laws_szNet : IFun := ⟨[0, 1, 2, 4, 10],
  (.seq (.region false [] [⟨some 2, .box t_laws_Net 2 (.v 0), none⟩, ⟨some 3, .mov (.c (.int .i64 0)), none⟩])
  (.seq (.region false [] [⟨none, .faddr 1 (.v 2), none⟩, ⟨none, .load false 1 (.r 0), none⟩, ⟨none, .mov (.v 1), none⟩, ⟨none, .call false f_laws_szTransS [(.r 1), (.r 2)], none⟩, ⟨some 1, .mov (.r 3), none⟩])
  (.seq (.seq (.region false [] [⟨none, .mov (.v 1), none⟩, ⟨some 4, .bin false .lss (.r 0) (.c (.int .i64 0)), none⟩])
  (.cond (.v 4) (.seq (.region false [] [⟨some 3, .mov (.c (.int .i64 (-1))), none⟩])
  .ret) .skip))
  (.seq (.region false [] [⟨none, .mov (.v 1), none⟩, ⟨some 3, .mov (.r 0), none⟩])
  .ret)))),
  [.v 3]⟩
def ir_laws_toIntS : IFun := ⟨[0, 2, 3, 4, 11],
  (.seq (.region false [] [⟨some 1, .nilrow t_int true 1, none⟩])
  (.seq (.region false [] [⟨none, .mov (.v 0), none⟩, ⟨none, .len false (.r 0), none⟩, ⟨none, .mk t_int true 1 (.int .i64 0) (.r 1), none⟩, ⟨some 2, .mov (.r 2), none⟩])
  (.seq (.seq (.region false [] [⟨some 3, .mov (.c (.int .i64 0)), none⟩])
  (.block 0 (.loop [true, false, true, true, false] (.seq (.seq (.region false [] [⟨none, .mov (.v 3), none⟩, ⟨none, .mov (.v 0), none⟩, ⟨none, .len false (.r 1), none⟩, ⟨some 4, .bin false .lss (.r 0) (.r 2), none⟩])
  (.cond (.v 4) .skip (.exit 0)))
  (.seq (.block 1 (.region false [] [⟨none, .mov (.v 2), none⟩, ⟨none, .mov (.v 3), none⟩, ⟨none, .mov (.v 0), none⟩, ⟨none, .mov (.v 3), none⟩, ⟨none, .iaddr 1 (.r 2) (.r 3), none⟩, ⟨none, .load false 1 (.r 4), none⟩, ⟨none, .iaddr 1 (.r 0) (.r 1), none⟩, ⟨none, .store 1 (.r 6) (.r 5), none⟩]))
  (.region false [] [⟨none, .mov (.v 3), none⟩, ⟨none, .bin false .add (.r 0) (.c (.int .i64 1)), none⟩, ⟨some 3, .mov (.r 1), none⟩]))))))
  (.seq (.region false [] [⟨none, .mov (.v 2), none⟩, ⟨some 1, .mov (.r 0), none⟩])
  .ret)))),
  [.v 1]⟩
def ir_laws_toTrans : IFun := ⟨[0, 1, 2, 3],
  (.seq (.region false [] [⟨some 1, .box t_laws_Trans 3 (.v 0), none⟩, ⟨some 2, .alloc t_impl_Trans [(.nil true 1), (.nil true 1), (.nil true 1)], none⟩])
  (.seq (.region false [] [⟨some 3, .alloc t_impl_Trans [(.nil true 1), (.nil true 1), (.nil true 1)], none⟩])
  (.seq (.region false [] [⟨none, .faddr 0 (.v 1), none⟩, ⟨none, .load false 1 (.r 0), none⟩, ⟨none, .call false f_laws_toIntS [(.r 1)], none⟩, ⟨none, .faddr 0 (.v 3), none⟩, ⟨none, .store 1 (.r 3) (.r 2), none⟩])
  (.seq (.region false [] [⟨none, .faddr 1 (.v 1), none⟩, ⟨none, .load false 1 (.r 0), none⟩, ⟨none, .call false f_laws_toIntS [(.r 1)], none⟩, ⟨none, .faddr 1 (.v 3), none⟩, ⟨none, .store 1 (.r 3) (.r 2), none⟩])
  (.seq (.region false [] [⟨none, .faddr 2 (.v 1), none⟩, ⟨none, .load false 1 (.r 0), none⟩, ⟨none, .call false f_laws_toIntS [(.r 1)], none⟩, ⟨none, .faddr 2 (.v 3), none⟩, ⟨none, .store 1 (.r 3) (.r 2), none⟩])
  (.seq (.region false [] [⟨none, .load true 3 (.v 3), none⟩, ⟨none, .store 3 (.v 2) (.r 0), none⟩])
  .ret)))))),
  [.cell true 3 2]⟩
def ir_laws_toTransS : IFun := ⟨[0, 2, 3, 4, 11],
  (.seq (.region false [] [⟨some 1, .nill t_impl_Trans 3, none⟩])
  (.seq (.region false [] [⟨none, .mov (.v 0), none⟩, ⟨none, .len false (.r 0), none⟩, ⟨none, .mkl t_impl_Trans 3 (.agg [(.nil true 1), (.nil true 1), (.nil true 1)]) (.r 1), none⟩, ⟨some 2, .mov (.r 2), none⟩])
  (.seq (.seq (.region false [] [⟨some 3, .mov (.c (.int .i64 0)), none⟩])
  (.block 0 (.loop [true, false, true, true, false] (.seq (.seq (.region false [] [⟨none, .mov (.v 3), none⟩, ⟨none, .mov (.v 0), none⟩, ⟨none, .len false (.r 1), none⟩, ⟨some 4, .bin false .lss (.r 0) (.r 2), none⟩])
  (.cond (.v 4) .skip (.exit 0)))
  (.seq (.block 1 (.region false [] [⟨none, .mov (.v 2), none⟩, ⟨none, .mov (.v 3), none⟩, ⟨none, .mov (.v 0), none⟩, ⟨none, .mov (.v 3), none⟩, ⟨none, .iaddr 3 (.r 2) (.r 3), none⟩, ⟨none, .load true 3 (.r 4), none⟩, ⟨none, .call false f_laws_toTrans [(.r 5)], none⟩, ⟨none, .iaddr 3 (.r 0) (.r 1), none⟩, ⟨none, .stl 3 (.r 7) (.r 6), none⟩]))
  (.region false [] [⟨none, .mov (.v 3), none⟩, ⟨none, .bin false .add (.r 0) (.c (.int .i64 1)), none⟩, ⟨some 3, .mov (.r 1), none⟩]))))))
  (.seq (.region false [] [⟨none, .mov (.v 2), none⟩, ⟨some 1, .mov (.r 0), none⟩])
  .ret)))),
  [.v 1]⟩
def ir_laws_toNet : IFun := ⟨[0, 1, 2, 3],
  (.seq (.region false [] [⟨some 1, .box t_laws_Net 2 (.v 0), none⟩, ⟨some 2, .alloc t_impl_Net [(.int .i64 0), (.nil false 3)], none⟩])
  (.seq (.region false [] [⟨some 3, .alloc t_impl_Net [(.int .i64 0), (.nil false 3)], none⟩])
  (.seq (.region false [] [⟨none, .faddr 0 (.v 1), none⟩, ⟨none, .load false 1 (.r 0), none⟩, ⟨none, .faddr 0 (.v 3), none⟩, ⟨none, .stl 1 (.r 2) (.r 1), none⟩])
  (.seq (.region false [] [⟨none, .faddr 1 (.v 1), none⟩, ⟨none, .load false 1 (.r 0), none⟩, ⟨none, .call false f_laws_toTransS [(.r 1)], none⟩, ⟨none, .faddr 1 (.v 3), none⟩, ⟨none, .stl 1 (.r 3) (.r 2), none⟩])
  (.seq (.region false [] [⟨none, .load true 2 (.v 3), none⟩, ⟨none, .stl 2 (.v 2) (.r 0), none⟩])
  .ret))))),
  [.cell true 2 2]⟩
def ir_spec_l1In : IFun := ⟨[0, 1, 2, 6],
  (.seq (.region false [] [⟨some 3, .mov (.c (.bool false)), none⟩])
  (.seq (.region false [] [⟨none, .mov (.v 0), none⟩, ⟨none, .mov (.v 1), none⟩, ⟨none, .bin false .geq (.r 0) (.r 1), none⟩, ⟨none, .mov (.r 2), none⟩, ⟨none, .mov (.v 0), some (3, true)⟩, ⟨none, .mov (.v 2), some (3, true)⟩, ⟨none, .bin false .leq (.r 4) (.r 5), some (3, true)⟩, ⟨none, .pick (.r 3) (.r 6) (.c (.bool false)), none⟩, ⟨some 3, .mov (.r 7), none⟩])
  .ret)),
  [.v 3]⟩
def ir_spec_l1Places : IFun := ⟨[0, 2],
  (.seq (.region false [] [⟨some 1, .mov (.c (.bool false)), none⟩])
  (.seq (.region false [] [⟨none, .mov (.v 0), none⟩, ⟨none, .call false f_spec_l1In [(.r 0), (.c (.int .i64 1)), (.c (.int .i64 16))], none⟩, ⟨some 1, .mov (.r 1), none⟩])
  .ret)),
  [.v 1]⟩
def ir_spec_l1Rising : IFun := ⟨[0, 1, 2, 6, 7, 8, 9, 10, 11, 12, 33],
  (.seq (.region false [] [⟨some 3, .mov (.c (.bool false)), none⟩])
  (.seq (.seq (.region false [] [⟨some 6, .mov (.v 0), none⟩, ⟨some 7, .len false (.v 6), none⟩, ⟨some 8, .mov (.c (.int .i64 0)), none⟩])
  (.block 0 (.loop [true, true, true, false, false, false, true, true, true, false, false] (.seq (.region false [] [⟨some 9, .bin false .lss (.v 8) (.v 7), none⟩])
  (.seq (.cond (.v 9) .skip (.exit 0))
  (.seq (.block 1 (.seq (.region false [] [⟨none, .mov (.v 8), none⟩, ⟨none, .iaddr 1 (.v 6) (.v 8), none⟩, ⟨none, .load false 1 (.r 1), none⟩, ⟨some 4, .mov (.r 0), none⟩, ⟨some 5, .mov (.r 2), none⟩])
  (.seq (.region false [] [⟨none, .mov (.v 5), none⟩, ⟨none, .mov (.v 1), none⟩, ⟨none, .mov (.v 2), none⟩, ⟨none, .call false f_spec_l1In [(.r 0), (.r 1), (.r 2)], none⟩, ⟨none, .not (.r 3), none⟩, ⟨none, .mov (.r 4), none⟩, ⟨none, .mov (.v 4), some (5, false)⟩, ⟨none, .bin false .gtr (.r 6) (.c (.int .i64 0)), some (5, false)⟩, ⟨none, .mov (.r 7), some (5, false)⟩, ⟨none, .mov (.v 0), some (8, true)⟩, ⟨none, .mov (.v 4), some (8, true)⟩, ⟨none, .bin false .sub (.r 10) (.c (.int .i64 1)), some (8, true)⟩, ⟨none, .iaddr 1 (.r 9) (.r 11), some (8, true)⟩, ⟨none, .load false 1 (.r 12), some (8, true)⟩, ⟨none, .mov (.v 5), some (8, true)⟩, ⟨none, .bin false .geq (.r 13) (.r 14), some (8, true)⟩, ⟨none, .pick (.r 8) (.r 15) (.c (.bool false)), some (5, false)⟩, ⟨some 10, .pick (.r 5) (.c (.bool true)) (.r 16), none⟩])
  (.cond (.v 10) (.seq (.region false [] [⟨some 3, .mov (.c (.bool false)), none⟩])
  .ret) .skip))))
  (.region false [] [⟨none, .bin false .add (.v 8) (.c (.int .i64 1)), none⟩, ⟨some 8, .mov (.r 0), none⟩])))))))
  (.seq (.region false [] [⟨some 3, .mov (.c (.bool true)), none⟩])
  .ret))),
  [.v 3]⟩
def ir_spec_GoodNet : IFun := ⟨[0, 1, 2, 4, 14, 16, 17, 18, 19, 52],
  (.seq (.region false [] [⟨some 1, .box t_impl_Net 2 (.v 0), none⟩, ⟨some 2, .mov (.c (.bool false)), none⟩])
  (.seq (.seq (.region false [] [⟨none, .faddr 0 (.v 1), none⟩, ⟨none, .load false 1 (.r 0), none⟩, ⟨none, .call false f_spec_l1Places [(.r 1)], none⟩, ⟨none, .not (.r 2), none⟩, ⟨none, .mov (.r 3), none⟩, ⟨none, .faddr 1 (.v 1), some (4, false)⟩, ⟨none, .load false 1 (.r 5), some (4, false)⟩, ⟨none, .len false (.r 6), some (4, false)⟩, ⟨none, .bin false .gtr (.r 7) (.c (.int .i64 24)), some (4, false)⟩, ⟨some 4, .pick (.r 4) (.c (.bool true)) (.r 8), none⟩])
  (.cond (.v 4) (.seq (.region false [] [⟨some 2, .mov (.c (.bool false)), none⟩])
  .ret) .skip))
  (.seq (.seq (.region false [] [⟨none, .faddr 1 (.v 1), none⟩, ⟨some 5, .load false 1 (.r 0), none⟩, ⟨some 6, .len false (.v 5), none⟩, ⟨some 7, .mov (.c (.int .i64 0)), none⟩])
  (.block 0 (.loop [false, true, false, false, false, true, true, true, false, false] (.seq (.region false [] [⟨some 8, .bin false .lss (.v 7) (.v 6), none⟩])
  (.seq (.cond (.v 8) .skip (.exit 0))
  (.seq (.block 1 (.seq (.region false [] [⟨none, .iaddr 3 (.v 5) (.v 7), none⟩, ⟨none, .load true 3 (.r 0), none⟩, ⟨some 3, .alloc t_impl_Trans [(.nil true 1), (.nil true 1), (.nil true 1)], none⟩, ⟨none, .store 3 (.v 3) (.r 1), none⟩])
  (.seq (.region false [] [⟨none, .faddr 0 (.v 3), none⟩, ⟨none, .load false 1 (.r 0), none⟩, ⟨none, .len false (.r 1), none⟩, ⟨none, .bin false .eql (.r 2) (.c (.int .i64 0)), none⟩, ⟨none, .mov (.r 3), none⟩, ⟨none, .faddr 0 (.v 3), some (4, false)⟩, ⟨none, .load false 1 (.r 5), some (4, false)⟩, ⟨none, .faddr 0 (.v 1), some (4, false)⟩, ⟨none, .load false 1 (.r 7), some (4, false)⟩, ⟨none, .bin false .sub (.r 8) (.c (.int .i64 1)), some (4, false)⟩, ⟨none, .call false f_spec_l1Rising [(.r 6), (.c (.int .i64 0)), (.r 9)], some (4, false)⟩, ⟨none, .not (.r 10), some (4, false)⟩, ⟨none, .pick (.r 4) (.c (.bool true)) (.r 11), none⟩, ⟨none, .mov (.r 12), none⟩, ⟨none, .faddr 1 (.v 3), some (13, false)⟩, ⟨none, .load false 1 (.r 14), some (13, false)⟩, ⟨none, .faddr 0 (.v 1), some (13, false)⟩, ⟨none, .load false 1 (.r 16), some (13, false)⟩, ⟨none, .bin false .sub (.r 17) (.c (.int .i64 1)), some (13, false)⟩, ⟨none, .call false f_spec_l1Rising [(.r 15), (.c (.int .i64 0)), (.r 18)], some (13, false)⟩, ⟨none, .not (.r 19), some (13, false)⟩, ⟨none, .pick (.r 13) (.c (.bool true)) (.r 20), none⟩, ⟨none, .mov (.r 21), none⟩, ⟨none, .faddr 2 (.v 3), some (22, false)⟩, ⟨none, .load false 1 (.r 23), some (22, false)⟩, ⟨none, .faddr 0 (.v 1), some (22, false)⟩, ⟨none, .load false 1 (.r 25), some (22, false)⟩, ⟨none, .bin false .sub (.r 26) (.c (.int .i64 1)), some (22, false)⟩, ⟨none, .call false f_spec_l1Rising [(.r 24), (.c (.int .i64 0)), (.r 27)], some (22, false)⟩, ⟨none, .not (.r 28), some (22, false)⟩, ⟨some 9, .pick (.r 22) (.c (.bool true)) (.r 29), none⟩])
  (.cond (.v 9) (.seq (.region false [] [⟨some 2, .mov (.c (.bool false)), none⟩])
  .ret) .skip))))
  (.region false [] [⟨none, .bin false .add (.v 7) (.c (.int .i64 1)), none⟩, ⟨some 7, .mov (.r 0), none⟩])))))))
  (.seq (.region false [] [⟨some 2, .mov (.c (.bool true)), none⟩])
  .ret)))),
  [.v 2]⟩
def ir_spec_l1All : IFun := ⟨[0, 1, 2, 6, 8, 9, 10, 11, 12, 19],
  (.seq (.region false [] [⟨some 3, .mov (.c (.bool false)), none⟩])
  (.seq (.seq (.region false [] [⟨some 5, .mov (.v 0), none⟩, ⟨some 6, .len false (.v 5), none⟩, ⟨some 7, .mov (.c (.int .i64 0)), none⟩])
  (.block 0 (.loop [false, true, true, false, false, true, true, true, false, false] (.seq (.region false [] [⟨some 8, .bin false .lss (.v 7) (.v 6), none⟩])
  (.seq (.cond (.v 8) .skip (.exit 0))
  (.seq (.block 1 (.seq (.region false [] [⟨none, .iaddr 1 (.v 5) (.v 7), none⟩, ⟨none, .load false 1 (.r 0), none⟩, ⟨some 4, .mov (.r 1), none⟩])
  (.seq (.region false [] [⟨none, .mov (.v 4), none⟩, ⟨none, .mov (.v 1), none⟩, ⟨none, .mov (.v 2), none⟩, ⟨none, .call false f_spec_l1In [(.r 0), (.r 1), (.r 2)], none⟩, ⟨some 9, .not (.r 3), none⟩])
  (.cond (.v 9) (.seq (.region false [] [⟨some 3, .mov (.c (.bool false)), none⟩])
  .ret) .skip))))
  (.region false [] [⟨none, .bin false .add (.v 7) (.c (.int .i64 1)), none⟩, ⟨some 7, .mov (.r 0), none⟩])))))))
  (.seq (.region false [] [⟨some 3, .mov (.c (.bool true)), none⟩])
  .ret))),
  [.v 3]⟩
def ir_spec_GoodLetters : IFun := ⟨[0, 1, 2, 4],
  (.seq (.region false [] [⟨some 2, .box t_impl_Net 2 (.v 0), none⟩, ⟨some 3, .mov (.c (.bool false)), none⟩])
  (.seq (.region false [] [⟨none, .load true 2 (.v 2), none⟩, ⟨none, .call false f_spec_GoodNet [(.r 0)], none⟩, ⟨none, .mov (.r 1), none⟩, ⟨none, .mov (.v 1), some (2, true)⟩, ⟨none, .len false (.r 3), some (2, true)⟩, ⟨none, .faddr 1 (.v 2), some (2, true)⟩, ⟨none, .load false 1 (.r 5), some (2, true)⟩, ⟨none, .len false (.r 6), some (2, true)⟩, ⟨none, .bin false .eql (.r 4) (.r 7), some (2, true)⟩, ⟨none, .pick (.r 2) (.r 8) (.c (.bool false)), none⟩, ⟨none, .mov (.r 9), none⟩, ⟨none, .mov (.v 1), some (10, true)⟩, ⟨none, .call false f_spec_l1All [(.r 11), (.c (.int .i64 0)), (.c (.int .i64 9))], some (10, true)⟩, ⟨none, .pick (.r 10) (.r 12) (.c (.bool false)), none⟩, ⟨some 3, .mov (.r 13), none⟩])
  .ret)),
  [.v 3]⟩
def ir_impl_within : IFun := ⟨[0, 1, 2, 6],
  (.seq (.region false [] [⟨some 3, .mov (.c (.bool false)), none⟩])
  (.seq (.region false [] [⟨none, .mov (.v 0), none⟩, ⟨none, .mov (.v 1), none⟩, ⟨none, .bin false .geq (.r 0) (.r 1), none⟩, ⟨none, .mov (.r 2), none⟩, ⟨none, .mov (.v 0), some (3, true)⟩, ⟨none, .mov (.v 2), some (3, true)⟩, ⟨none, .bin false .leq (.r 4) (.r 5), some (3, true)⟩, ⟨none, .pick (.r 3) (.r 6) (.c (.bool false)), none⟩, ⟨some 3, .mov (.r 7), none⟩])
  .ret)),
  [.v 3]⟩
def ir_impl_increasing : IFun := ⟨[0, 2, 3, 7, 19],
  (.seq (.region false [] [⟨some 1, .mov (.c (.bool false)), none⟩])
  (.seq (.seq (.region false [] [⟨some 2, .mov (.c (.int .i64 1)), none⟩])
  (.block 0 (.loop [true, false, true, false, false] (.seq (.seq (.region false [] [⟨none, .mov (.v 2), none⟩, ⟨none, .mov (.v 0), none⟩, ⟨none, .len false (.r 1), none⟩, ⟨some 3, .bin false .lss (.r 0) (.r 2), none⟩])
  (.cond (.v 3) .skip (.exit 0)))
  (.seq (.block 1 (.seq (.region true [] [⟨none, .mov (.v 0), none⟩, ⟨none, .mov (.v 2), none⟩, ⟨none, .bin false .sub (.r 1) (.c (.int .i64 1)), none⟩, ⟨none, .iaddr 1 (.r 0) (.r 2), none⟩, ⟨none, .load false 1 (.r 3), none⟩, ⟨none, .mov (.v 0), none⟩, ⟨none, .mov (.v 2), none⟩, ⟨none, .iaddr 1 (.r 5) (.r 6), none⟩, ⟨none, .load false 1 (.r 7), none⟩, ⟨some 4, .bin false .geq (.r 4) (.r 8), none⟩])
  (.cond (.v 4) (.seq (.region false [] [⟨some 1, .mov (.c (.bool false)), none⟩])
  .ret) .skip)))
  (.region false [] [⟨none, .mov (.v 2), none⟩, ⟨none, .bin false .add (.r 0) (.c (.int .i64 1)), none⟩, ⟨some 2, .mov (.r 1), none⟩]))))))
  (.seq (.region false [] [⟨some 1, .mov (.c (.bool true)), none⟩])
  .ret))),
  [.v 1]⟩
def ir_impl_allWithin : IFun := ⟨[0, 1, 2, 6, 8, 9, 10, 11, 12, 19],
  (.seq (.region false [] [⟨some 3, .mov (.c (.bool false)), none⟩])
  (.seq (.seq (.region false [] [⟨some 5, .mov (.v 0), none⟩, ⟨some 6, .len false (.v 5), none⟩, ⟨some 7, .mov (.c (.int .i64 0)), none⟩])
  (.block 0 (.loop [false, true, true, false, false, true, true, true, false, false] (.seq (.region false [] [⟨some 8, .bin false .lss (.v 7) (.v 6), none⟩])
  (.seq (.cond (.v 8) .skip (.exit 0))
  (.seq (.block 1 (.seq (.region false [] [⟨none, .iaddr 1 (.v 5) (.v 7), none⟩, ⟨none, .load false 1 (.r 0), none⟩, ⟨some 4, .mov (.r 1), none⟩])
  (.seq (.region false [] [⟨none, .mov (.v 4), none⟩, ⟨none, .mov (.v 1), none⟩, ⟨none, .mov (.v 2), none⟩, ⟨none, .call false f_impl_within [(.r 0), (.r 1), (.r 2)], none⟩, ⟨some 9, .not (.r 3), none⟩])
  (.cond (.v 9) (.seq (.region false [] [⟨some 3, .mov (.c (.bool false)), none⟩])
  .ret) .skip))))
  (.region false [] [⟨none, .bin false .add (.v 7) (.c (.int .i64 1)), none⟩, ⟨some 7, .mov (.r 0), none⟩])))))))
  (.seq (.region false [] [⟨some 3, .mov (.c (.bool true)), none⟩])
  .ret))),
  [.v 3]⟩
def ir_impl_arePlaces : IFun := ⟨[0, 1, 2, 4],
  (.seq (.region false [] [⟨some 2, .box t_impl_Net 2 (.v 0), none⟩, ⟨some 3, .mov (.c (.bool false)), none⟩])
  (.seq (.region false [] [⟨none, .mov (.v 1), none⟩, ⟨none, .call false f_impl_increasing [(.r 0)], none⟩, ⟨none, .mov (.r 1), none⟩, ⟨none, .mov (.v 1), some (2, true)⟩, ⟨none, .faddr 0 (.v 2), some (2, true)⟩, ⟨none, .load false 1 (.r 4), some (2, true)⟩, ⟨none, .bin false .sub (.r 5) (.c (.int .i64 1)), some (2, true)⟩, ⟨none, .call false f_impl_allWithin [(.r 3), (.c (.int .i64 0)), (.r 6)], some (2, true)⟩, ⟨none, .pick (.r 2) (.r 7) (.c (.bool false)), none⟩, ⟨some 3, .mov (.r 8), none⟩])
  .ret)),
  [.v 3]⟩
def ir_impl_GoodNet_1 : IFun := ⟨[0, 1, 2, 3],
  (.seq (.region false [] [⟨some 2, .box t_impl_Trans 3 (.v 0), none⟩, ⟨some 3, .mov (.c (.bool false)), none⟩])
  (.seq (.region false [] [⟨none, .faddr 0 (.v 2), none⟩, ⟨none, .load false 1 (.r 0), none⟩, ⟨none, .len false (.r 1), none⟩, ⟨none, .bin false .eql (.r 2) (.c (.int .i64 0)), none⟩, ⟨none, .mov (.r 3), none⟩, ⟨none, .load true 2 (.v 1), some (4, false)⟩, ⟨none, .faddr 0 (.v 2), some (4, false)⟩, ⟨none, .load false 1 (.r 6), some (4, false)⟩, ⟨none, .call false f_impl_arePlaces [(.r 5), (.r 7)], some (4, false)⟩, ⟨none, .not (.r 8), some (4, false)⟩, ⟨none, .pick (.r 4) (.c (.bool true)) (.r 9), none⟩, ⟨none, .mov (.r 10), none⟩, ⟨none, .load true 2 (.v 1), some (11, false)⟩, ⟨none, .faddr 1 (.v 2), some (11, false)⟩, ⟨none, .load false 1 (.r 13), some (11, false)⟩, ⟨none, .call false f_impl_arePlaces [(.r 12), (.r 14)], some (11, false)⟩, ⟨none, .not (.r 15), some (11, false)⟩, ⟨none, .pick (.r 11) (.c (.bool true)) (.r 16), none⟩, ⟨none, .mov (.r 17), none⟩, ⟨none, .load true 2 (.v 1), some (18, false)⟩, ⟨none, .faddr 2 (.v 2), some (18, false)⟩, ⟨none, .load false 1 (.r 20), some (18, false)⟩, ⟨none, .call false f_impl_arePlaces [(.r 19), (.r 21)], some (18, false)⟩, ⟨none, .not (.r 22), some (18, false)⟩, ⟨none, .pick (.r 18) (.c (.bool true)) (.r 23), none⟩, ⟨some 3, .mov (.r 24), none⟩])
  .ret)),
  [.v 3]⟩
def ir_slices_IndexFunc_sl_impl_Trans_impl_Trans : IFun := ⟨[0, 1, 4, 5, 7, 8, 9, 16],
  (.seq (.region false [] [⟨some 2, .mov (.c (.int .i64 0)), none⟩])
  (.seq (.seq (.region false [] [⟨none, .mov (.v 0), none⟩, ⟨some 4, .len false (.r 0), none⟩, ⟨some 5, .mov (.c (.int .i64 0)), none⟩])
  (.block 0 (.loop [true, true, false, false, true, true, false, false] (.seq (.region false [] [⟨some 6, .bin false .lss (.v 5) (.v 4), none⟩])
  (.seq (.cond (.v 6) .skip (.exit 0))
  (.seq (.block 1 (.seq (.region false [] [⟨none, .mov (.v 5), none⟩, ⟨some 3, .mov (.r 0), none⟩])
  (.seq (.region false [] [⟨none, .mov (.v 1), none⟩, ⟨none, .mov (.v 0), none⟩, ⟨none, .mov (.v 3), none⟩, ⟨none, .iaddr 3 (.r 1) (.r 2), none⟩, ⟨none, .load true 3 (.r 3), none⟩, ⟨some 7, .callv false (.r 0) [(.r 4)], none⟩])
  (.cond (.v 7) (.seq (.region false [] [⟨none, .mov (.v 3), none⟩, ⟨some 2, .mov (.r 0), none⟩])
  .ret) .skip))))
  (.region false [] [⟨none, .bin false .add (.v 5) (.c (.int .i64 1)), none⟩, ⟨some 5, .mov (.r 0), none⟩])))))))
  (.seq (.region false [] [⟨some 2, .mov (.c (.int .i64 (-1))), none⟩])
  .ret))),
  [.v 2]⟩
def ir_slices_ContainsFunc_sl_impl_Trans_impl_Trans : IFun := ⟨[0, 1, 4],
  (.seq (.region false [] [⟨some 2, .mov (.c (.bool false)), none⟩])
  (.seq (.region false [] [⟨none, .mov (.v 0), none⟩, ⟨none, .mov (.v 1), none⟩, ⟨none, .call false f_slices_IndexFunc_sl_impl_Trans_impl_Trans [(.r 0), (.r 1)], none⟩, ⟨none, .bin false .geq (.r 2) (.c (.int .i64 0)), none⟩, ⟨some 2, .mov (.r 3), none⟩])
  .ret)),
  [.v 2]⟩
def ir_impl_GoodNet : IFun := ⟨[0, 1, 2],
  (.seq (.region false [] [⟨some 1, .box t_impl_Net 2 (.v 0), none⟩, ⟨some 2, .mov (.c (.bool false)), none⟩])
  (.seq (.region false [] [⟨none, .faddr 0 (.v 1), none⟩, ⟨none, .load false 1 (.r 0), none⟩, ⟨none, .call false f_impl_within [(.r 1), (.c (.int .i64 1)), (.c (.int .i64 16))], none⟩, ⟨none, .mov (.r 2), none⟩, ⟨none, .faddr 1 (.v 1), some (3, true)⟩, ⟨none, .load false 1 (.r 4), some (3, true)⟩, ⟨none, .len false (.r 5), some (3, true)⟩, ⟨none, .bin false .leq (.r 6) (.c (.int .i64 24)), some (3, true)⟩, ⟨none, .pick (.r 3) (.r 7) (.c (.bool false)), none⟩, ⟨none, .mov (.r 8), none⟩, ⟨none, .faddr 1 (.v 1), some (9, true)⟩, ⟨none, .load false 1 (.r 10), some (9, true)⟩, ⟨none, .mkfn f_impl_GoodNet_1 [(.v 1)], some (9, true)⟩, ⟨none, .call false f_slices_ContainsFunc_sl_impl_Trans_impl_Trans [(.r 11), (.r 12)], some (9, true)⟩, ⟨none, .not (.r 13), some (9, true)⟩, ⟨none, .pick (.r 9) (.r 14) (.c (.bool false)), none⟩, ⟨some 2, .mov (.r 15), none⟩])
  .ret)),
  [.v 2]⟩
def ir_impl_GoodLetters : IFun := ⟨[0, 1, 2, 4],
  (.seq (.region false [] [⟨some 2, .box t_impl_Net 2 (.v 0), none⟩, ⟨some 3, .mov (.c (.bool false)), none⟩])
  (.seq (.region false [] [⟨none, .load true 2 (.v 2), none⟩, ⟨none, .call false f_impl_GoodNet [(.r 0)], none⟩, ⟨none, .mov (.r 1), none⟩, ⟨none, .mov (.v 1), some (2, true)⟩, ⟨none, .len false (.r 3), some (2, true)⟩, ⟨none, .faddr 1 (.v 2), some (2, true)⟩, ⟨none, .load false 1 (.r 5), some (2, true)⟩, ⟨none, .len false (.r 6), some (2, true)⟩, ⟨none, .bin false .eql (.r 4) (.r 7), some (2, true)⟩, ⟨none, .pick (.r 2) (.r 8) (.c (.bool false)), none⟩, ⟨none, .mov (.r 9), none⟩, ⟨none, .mov (.v 1), some (10, true)⟩, ⟨none, .call false f_impl_allWithin [(.r 11), (.c (.int .i64 0)), (.c (.int .i64 9))], some (10, true)⟩, ⟨none, .pick (.r 10) (.r 12) (.c (.bool false)), none⟩, ⟨some 3, .mov (.r 13), none⟩])
  .ret)),
  [.v 3]⟩
def ir_laws_eqIntS : IFun := ⟨[0, 1, 4, 5, 10, 14, 25],
  (.seq (.region false [] [⟨some 2, .mov (.c (.bool false)), none⟩])
  (.seq (.seq (.region false [] [⟨none, .mov (.v 0), none⟩, ⟨none, .len false (.r 0), none⟩, ⟨none, .mov (.v 1), none⟩, ⟨none, .len false (.r 2), none⟩, ⟨some 4, .bin false .neq (.r 1) (.r 3), none⟩])
  (.cond (.v 4) (.seq (.region false [] [⟨some 2, .mov (.c (.bool false)), none⟩])
  .ret) .skip))
  (.seq (.seq (.region false [] [⟨some 3, .mov (.c (.int .i64 0)), none⟩])
  (.block 0 (.loop [true, true, false, true, false, false, false] (.seq (.seq (.region false [] [⟨none, .mov (.v 3), none⟩, ⟨none, .mov (.v 0), none⟩, ⟨none, .len false (.r 1), none⟩, ⟨some 5, .bin false .lss (.r 0) (.r 2), none⟩])
  (.cond (.v 5) .skip (.exit 0)))
  (.seq (.block 1 (.seq (.region true [] [⟨none, .mov (.v 0), none⟩, ⟨none, .mov (.v 3), none⟩, ⟨none, .iaddr 1 (.r 0) (.r 1), none⟩, ⟨none, .load false 1 (.r 2), none⟩, ⟨none, .mov (.v 1), none⟩, ⟨none, .mov (.v 3), none⟩, ⟨none, .iaddr 1 (.r 4) (.r 5), none⟩, ⟨none, .load false 1 (.r 6), none⟩, ⟨some 6, .bin false .neq (.r 3) (.r 7), none⟩])
  (.cond (.v 6) (.seq (.region false [] [⟨some 2, .mov (.c (.bool false)), none⟩])
  .ret) .skip)))
  (.region false [] [⟨none, .mov (.v 3), none⟩, ⟨none, .bin false .add (.r 0) (.c (.int .i64 1)), none⟩, ⟨some 3, .mov (.r 1), none⟩]))))))
  (.seq (.region false [] [⟨some 2, .mov (.c (.bool true)), none⟩])
  .ret)))),
  [.v 2]⟩
def ir_laws_eqTrans : IFun := ⟨[0, 1, 2, 3, 4, 10, 16, 22],
  (.seq (.region false [] [⟨some 2, .box t_impl_Trans 3 (.v 0), none⟩, ⟨some 3, .box t_impl_Trans 3 (.v 1), none⟩, ⟨some 4, .mov (.c (.bool false)), none⟩])
  (.seq (.seq (.region false [] [⟨none, .faddr 0 (.v 2), none⟩, ⟨none, .load false 1 (.r 0), none⟩, ⟨none, .faddr 0 (.v 3), none⟩, ⟨none, .load false 1 (.r 2), none⟩, ⟨none, .call false f_laws_eqIntS [(.r 1), (.r 3)], none⟩, ⟨some 5, .not (.r 4), none⟩])
  (.cond (.v 5) (.seq (.region false [] [⟨some 4, .mov (.c (.bool false)), none⟩])
  .ret) .skip))
  (.seq (.seq (.region false [] [⟨none, .faddr 1 (.v 2), none⟩, ⟨none, .load false 1 (.r 0), none⟩, ⟨none, .faddr 1 (.v 3), none⟩, ⟨none, .load false 1 (.r 2), none⟩, ⟨none, .call false f_laws_eqIntS [(.r 1), (.r 3)], none⟩, ⟨some 6, .not (.r 4), none⟩])
  (.cond (.v 6) (.seq (.region false [] [⟨some 4, .mov (.c (.bool false)), none⟩])
  .ret) .skip))
  (.seq (.seq (.region false [] [⟨none, .faddr 2 (.v 2), none⟩, ⟨none, .load false 1 (.r 0), none⟩, ⟨none, .faddr 2 (.v 3), none⟩, ⟨none, .load false 1 (.r 2), none⟩, ⟨none, .call false f_laws_eqIntS [(.r 1), (.r 3)], none⟩, ⟨some 7, .not (.r 4), none⟩])
  (.cond (.v 7) (.seq (.region false [] [⟨some 4, .mov (.c (.bool false)), none⟩])
  .ret) .skip))
  (.seq (.region false [] [⟨some 4, .mov (.c (.bool true)), none⟩])
  .ret))))),
  [.v 4]⟩
def ir_laws_eqTransS : IFun := ⟨[0, 1, 4, 5, 10, 14, 26],
  (.seq (.region false [] [⟨some 2, .mov (.c (.bool false)), none⟩])
  (.seq (.seq (.region false [] [⟨none, .mov (.v 0), none⟩, ⟨none, .len false (.r 0), none⟩, ⟨none, .mov (.v 1), none⟩, ⟨none, .len false (.r 2), none⟩, ⟨some 4, .bin false .neq (.r 1) (.r 3), none⟩])
  (.cond (.v 4) (.seq (.region false [] [⟨some 2, .mov (.c (.bool false)), none⟩])
  .ret) .skip))
  (.seq (.seq (.region false [] [⟨some 3, .mov (.c (.int .i64 0)), none⟩])
  (.block 0 (.loop [true, true, false, true, false, false, false] (.seq (.seq (.region false [] [⟨none, .mov (.v 3), none⟩, ⟨none, .mov (.v 0), none⟩, ⟨none, .len false (.r 1), none⟩, ⟨some 5, .bin false .lss (.r 0) (.r 2), none⟩])
  (.cond (.v 5) .skip (.exit 0)))
  (.seq (.block 1 (.seq (.region true [] [⟨none, .mov (.v 0), none⟩, ⟨none, .mov (.v 3), none⟩, ⟨none, .iaddr 3 (.r 0) (.r 1), none⟩, ⟨none, .load true 3 (.r 2), none⟩, ⟨none, .mov (.v 1), none⟩, ⟨none, .mov (.v 3), none⟩, ⟨none, .iaddr 3 (.r 4) (.r 5), none⟩, ⟨none, .load true 3 (.r 6), none⟩, ⟨none, .call false f_laws_eqTrans [(.r 3), (.r 7)], none⟩, ⟨some 6, .not (.r 8), none⟩])
  (.cond (.v 6) (.seq (.region false [] [⟨some 2, .mov (.c (.bool false)), none⟩])
  .ret) .skip)))
  (.region false [] [⟨none, .mov (.v 3), none⟩, ⟨none, .bin false .add (.r 0) (.c (.int .i64 1)), none⟩, ⟨some 3, .mov (.r 1), none⟩]))))))
  (.seq (.region false [] [⟨some 2, .mov (.c (.bool true)), none⟩])
  .ret)))),
  [.v 2]⟩
def ir_laws_eqNet : IFun := ⟨[0, 1, 2, 3, 4, 9, 15],
  (.seq (.region false [] [⟨some 2, .box t_impl_Net 2 (.v 0), none⟩, ⟨some 3, .box t_impl_Net 2 (.v 1), none⟩, ⟨some 4, .mov (.c (.bool false)), none⟩])
  (.seq (.seq (.region false [] [⟨none, .faddr 0 (.v 2), none⟩, ⟨none, .load false 1 (.r 0), none⟩, ⟨none, .faddr 0 (.v 3), none⟩, ⟨none, .load false 1 (.r 2), none⟩, ⟨some 5, .bin false .neq (.r 1) (.r 3), none⟩])
  (.cond (.v 5) (.seq (.region false [] [⟨some 4, .mov (.c (.bool false)), none⟩])
  .ret) .skip))
  (.seq (.seq (.region false [] [⟨none, .faddr 1 (.v 2), none⟩, ⟨none, .load false 1 (.r 0), none⟩, ⟨none, .faddr 1 (.v 3), none⟩, ⟨none, .load false 1 (.r 2), none⟩, ⟨none, .call false f_laws_eqTransS [(.r 1), (.r 3)], none⟩, ⟨some 6, .not (.r 4), none⟩])
  (.cond (.v 6) (.seq (.region false [] [⟨some 4, .mov (.c (.bool false)), none⟩])
  .ret) .skip))
  (.seq (.region false [] [⟨some 4, .mov (.c (.bool true)), none⟩])
  .ret)))),
  [.v 4]⟩
def ir_laws_FnExactGoodLetters : IFun := ⟨[0, 1, 2, 4, 5, 6, 7, 8, 9, 12, 17, 32, 37, 42],
  (.seq (.region false [] [⟨some 2, .box t_laws_Net 2 (.v 0), none⟩, ⟨some 3, .mov (.c (.bool false)), none⟩])
  (.seq (.seq (.region false [] [⟨none, .mov (.v 1), none⟩, ⟨none, .len false (.r 0), none⟩, ⟨some 9, .bin false .gtr (.r 1) (.c (.int .i64 1048576)), none⟩])
  (.cond (.v 9) (.seq (.region false [] [⟨some 3, .mov (.c (.bool true)), none⟩])
  .ret) .skip))
  (.seq (.region false [] [⟨some 4, .mov (.c (.int .i64 1048576)), none⟩])
  (.seq (.region false [] [⟨none, .load true 2 (.v 2), none⟩, ⟨none, .mov (.v 4), none⟩, ⟨none, .call false f_laws_szNet [(.r 0), (.r 1)], none⟩, ⟨some 4, .mov (.r 2), none⟩])
  (.seq (.seq (.region false [] [⟨none, .mov (.v 4), none⟩, ⟨some 10, .bin false .lss (.r 0) (.c (.int .i64 0)), none⟩])
  (.cond (.v 10) (.seq (.region false [] [⟨some 3, .mov (.c (.bool true)), none⟩])
  .ret) .skip))
  (.seq (.region false [] [⟨none, .load true 2 (.v 2), none⟩, ⟨none, .call false f_laws_toNet [(.r 0)], none⟩, ⟨none, .mov (.v 1), none⟩, ⟨none, .call false f_laws_toIntS [(.r 2)], none⟩, ⟨none, .call false f_spec_GoodLetters [(.r 1), (.r 3)], none⟩, ⟨some 5, .mov (.r 4), none⟩])
  (.seq (.region false [] [⟨none, .load true 2 (.v 2), none⟩, ⟨none, .call false f_laws_toNet [(.r 0)], none⟩, ⟨some 6, .alloc t_impl_Net [(.int .i64 0), (.nil false 3)], none⟩, ⟨none, .store 2 (.v 6) (.r 1), none⟩])
  (.seq (.region false [] [⟨none, .mov (.v 1), none⟩, ⟨none, .call false f_laws_toIntS [(.r 0)], none⟩, ⟨some 7, .mov (.r 1), none⟩])
  (.seq (.region false [] [⟨none, .load true 2 (.v 6), none⟩, ⟨none, .mov (.v 7), none⟩, ⟨none, .call false f_impl_GoodLetters [(.r 0), (.r 1)], none⟩, ⟨some 8, .mov (.r 2), none⟩])
  (.seq (.seq (.region false [] [⟨none, .mov (.v 8), none⟩, ⟨none, .mov (.v 5), none⟩, ⟨some 11, .bin true .neq (.r 0) (.r 1), none⟩])
  (.cond (.v 11) (.seq (.region false [] [⟨some 3, .mov (.c (.bool false)), none⟩])
  .ret) .skip))
  (.seq (.seq (.region true [(2, 0)] [⟨none, .load true 2 (.v 6), none⟩, ⟨none, .load true 2 (.v 2), none⟩, ⟨none, .call false f_laws_toNet [(.r 1)], none⟩, ⟨none, .call false f_laws_eqNet [(.r 0), (.r 2)], none⟩, ⟨some 12, .not (.r 3), none⟩])
  (.cond (.v 12) (.seq (.region false [] [⟨some 3, .mov (.c (.bool false)), none⟩])
  .ret) .skip))
  (.seq (.seq (.region false [] [⟨none, .mov (.v 7), none⟩, ⟨none, .mov (.v 1), none⟩, ⟨none, .call false f_laws_toIntS [(.r 1)], none⟩, ⟨none, .call false f_laws_eqIntS [(.r 0), (.r 2)], none⟩, ⟨some 13, .not (.r 3), none⟩])
  (.cond (.v 13) (.seq (.region false [] [⟨some 3, .mov (.c (.bool false)), none⟩])
  .ret) .skip))
  (.seq (.region false [] [⟨some 3, .mov (.c (.bool true)), none⟩])
  .ret))))))))))))),
  [.v 3]⟩
def tbl : List (FuncId × IFun) := [(f_laws_szIntS, ir_laws_szIntS), (f_laws_szTrans, ir_laws_szTrans), (f_laws_szTransS, ir_laws_szTransS), (f_laws_szNet, ir_laws_szNet), (f_laws_toIntS, ir_laws_toIntS), (f_laws_toTrans, ir_laws_toTrans), (f_laws_toTransS, ir_laws_toTransS), (f_laws_toNet, ir_laws_toNet), (f_spec_l1In, ir_spec_l1In), (f_spec_l1Places, ir_spec_l1Places), (f_spec_l1Rising, ir_spec_l1Rising), (f_spec_GoodNet, ir_spec_GoodNet), (f_spec_l1All, ir_spec_l1All), (f_spec_GoodLetters, ir_spec_GoodLetters), (f_impl_within, ir_impl_within), (f_impl_increasing, ir_impl_increasing), (f_impl_allWithin, ir_impl_allWithin), (f_impl_arePlaces, ir_impl_arePlaces), (f_impl_GoodNet_1, ir_impl_GoodNet_1), (f_slices_IndexFunc_sl_impl_Trans_impl_Trans, ir_slices_IndexFunc_sl_impl_Trans_impl_Trans), (f_slices_ContainsFunc_sl_impl_Trans_impl_Trans, ir_slices_ContainsFunc_sl_impl_Trans_impl_Trans), (f_impl_GoodNet, ir_impl_GoodNet), (f_impl_GoodLetters, ir_impl_GoodLetters), (f_laws_eqIntS, ir_laws_eqIntS), (f_laws_eqTrans, ir_laws_eqTrans), (f_laws_eqTransS, ir_laws_eqTransS), (f_laws_eqNet, ir_laws_eqNet), (f_laws_FnExactGoodLetters, ir_laws_FnExactGoodLetters)]
def F (f : FuncId) : Option IFun := (tbl.find? fun p => p.1 == f).map (·.2)
def exts : List (FuncId × (List PV → Option PV)) := []
def ext (f : FuncId) : Option (List PV → Option PV) := (exts.find? fun p => p.1 == f).map (·.2)
noncomputable def C : Orc := lim F ext
theorem C_laws_szIntS {args : List PV} {M : List Blk} {r : PV × List Blk} (h : W C M.length ir_laws_szIntS.body ⟨start ir_laws_szIntS args, M⟩ (Lv M.length ir_laws_szIntS.results r)) : C f_laws_szIntS args M = some r := call_of rfl rfl h
theorem C_laws_szTrans {args : List PV} {M : List Blk} {r : PV × List Blk} (h : W C M.length ir_laws_szTrans.body ⟨start ir_laws_szTrans args, M⟩ (Lv M.length ir_laws_szTrans.results r)) : C f_laws_szTrans args M = some r := call_of rfl rfl h
theorem C_laws_szTransS {args : List PV} {M : List Blk} {r : PV × List Blk} (h : W C M.length ir_laws_szTransS.body ⟨start ir_laws_szTransS args, M⟩ (Lv M.length ir_laws_szTransS.results r)) : C f_laws_szTransS args M = some r := call_of rfl rfl h
theorem C_laws_szNet {args : List PV} {M : List Blk} {r : PV × List Blk} (h : W C M.length ir_laws_szNet.body ⟨start ir_laws_szNet args, M⟩ (Lv M.length ir_laws_szNet.results r)) : C f_laws_szNet args M = some r := call_of rfl rfl h
theorem C_laws_toIntS {args : List PV} {M : List Blk} {r : PV × List Blk} (h : W C M.length ir_laws_toIntS.body ⟨start ir_laws_toIntS args, M⟩ (Lv M.length ir_laws_toIntS.results r)) : C f_laws_toIntS args M = some r := call_of rfl rfl h
theorem C_laws_toTrans {args : List PV} {M : List Blk} {r : PV × List Blk} (h : W C M.length ir_laws_toTrans.body ⟨start ir_laws_toTrans args, M⟩ (Lv M.length ir_laws_toTrans.results r)) : C f_laws_toTrans args M = some r := call_of rfl rfl h
theorem C_laws_toTransS {args : List PV} {M : List Blk} {r : PV × List Blk} (h : W C M.length ir_laws_toTransS.body ⟨start ir_laws_toTransS args, M⟩ (Lv M.length ir_laws_toTransS.results r)) : C f_laws_toTransS args M = some r := call_of rfl rfl h
theorem C_laws_toNet {args : List PV} {M : List Blk} {r : PV × List Blk} (h : W C M.length ir_laws_toNet.body ⟨start ir_laws_toNet args, M⟩ (Lv M.length ir_laws_toNet.results r)) : C f_laws_toNet args M = some r := call_of rfl rfl h
theorem C_spec_l1In {args : List PV} {M : List Blk} {r : PV × List Blk} (h : W C M.length ir_spec_l1In.body ⟨start ir_spec_l1In args, M⟩ (Lv M.length ir_spec_l1In.results r)) : C f_spec_l1In args M = some r := call_of rfl rfl h
theorem C_spec_l1Places {args : List PV} {M : List Blk} {r : PV × List Blk} (h : W C M.length ir_spec_l1Places.body ⟨start ir_spec_l1Places args, M⟩ (Lv M.length ir_spec_l1Places.results r)) : C f_spec_l1Places args M = some r := call_of rfl rfl h
theorem C_spec_l1Rising {args : List PV} {M : List Blk} {r : PV × List Blk} (h : W C M.length ir_spec_l1Rising.body ⟨start ir_spec_l1Rising args, M⟩ (Lv M.length ir_spec_l1Rising.results r)) : C f_spec_l1Rising args M = some r := call_of rfl rfl h
theorem C_spec_GoodNet {args : List PV} {M : List Blk} {r : PV × List Blk} (h : W C M.length ir_spec_GoodNet.body ⟨start ir_spec_GoodNet args, M⟩ (Lv M.length ir_spec_GoodNet.results r)) : C f_spec_GoodNet args M = some r := call_of rfl rfl h
theorem C_spec_l1All {args : List PV} {M : List Blk} {r : PV × List Blk} (h : W C M.length ir_spec_l1All.body ⟨start ir_spec_l1All args, M⟩ (Lv M.length ir_spec_l1All.results r)) : C f_spec_l1All args M = some r := call_of rfl rfl h
theorem C_spec_GoodLetters {args : List PV} {M : List Blk} {r : PV × List Blk} (h : W C M.length ir_spec_GoodLetters.body ⟨start ir_spec_GoodLetters args, M⟩ (Lv M.length ir_spec_GoodLetters.results r)) : C f_spec_GoodLetters args M = some r := call_of rfl rfl h
theorem C_impl_within {args : List PV} {M : List Blk} {r : PV × List Blk} (h : W C M.length ir_impl_within.body ⟨start ir_impl_within args, M⟩ (Lv M.length ir_impl_within.results r)) : C f_impl_within args M = some r := call_of rfl rfl h
theorem C_impl_increasing {args : List PV} {M : List Blk} {r : PV × List Blk} (h : W C M.length ir_impl_increasing.body ⟨start ir_impl_increasing args, M⟩ (Lv M.length ir_impl_increasing.results r)) : C f_impl_increasing args M = some r := call_of rfl rfl h
theorem C_impl_allWithin {args : List PV} {M : List Blk} {r : PV × List Blk} (h : W C M.length ir_impl_allWithin.body ⟨start ir_impl_allWithin args, M⟩ (Lv M.length ir_impl_allWithin.results r)) : C f_impl_allWithin args M = some r := call_of rfl rfl h
theorem C_impl_arePlaces {args : List PV} {M : List Blk} {r : PV × List Blk} (h : W C M.length ir_impl_arePlaces.body ⟨start ir_impl_arePlaces args, M⟩ (Lv M.length ir_impl_arePlaces.results r)) : C f_impl_arePlaces args M = some r := call_of rfl rfl h
theorem C_impl_GoodNet_1 {args : List PV} {M : List Blk} {r : PV × List Blk} (h : W C M.length ir_impl_GoodNet_1.body ⟨start ir_impl_GoodNet_1 args, M⟩ (Lv M.length ir_impl_GoodNet_1.results r)) : C f_impl_GoodNet_1 args M = some r := call_of rfl rfl h
theorem C_slices_IndexFunc_sl_impl_Trans_impl_Trans {args : List PV} {M : List Blk} {r : PV × List Blk} (h : W C M.length ir_slices_IndexFunc_sl_impl_Trans_impl_Trans.body ⟨start ir_slices_IndexFunc_sl_impl_Trans_impl_Trans args, M⟩ (Lv M.length ir_slices_IndexFunc_sl_impl_Trans_impl_Trans.results r)) : C f_slices_IndexFunc_sl_impl_Trans_impl_Trans args M = some r := call_of rfl rfl h
theorem C_slices_ContainsFunc_sl_impl_Trans_impl_Trans {args : List PV} {M : List Blk} {r : PV × List Blk} (h : W C M.length ir_slices_ContainsFunc_sl_impl_Trans_impl_Trans.body ⟨start ir_slices_ContainsFunc_sl_impl_Trans_impl_Trans args, M⟩ (Lv M.length ir_slices_ContainsFunc_sl_impl_Trans_impl_Trans.results r)) : C f_slices_ContainsFunc_sl_impl_Trans_impl_Trans args M = some r := call_of rfl rfl h
theorem C_impl_GoodNet {args : List PV} {M : List Blk} {r : PV × List Blk} (h : W C M.length ir_impl_GoodNet.body ⟨start ir_impl_GoodNet args, M⟩ (Lv M.length ir_impl_GoodNet.results r)) : C f_impl_GoodNet args M = some r := call_of rfl rfl h
theorem C_impl_GoodLetters {args : List PV} {M : List Blk} {r : PV × List Blk} (h : W C M.length ir_impl_GoodLetters.body ⟨start ir_impl_GoodLetters args, M⟩ (Lv M.length ir_impl_GoodLetters.results r)) : C f_impl_GoodLetters args M = some r := call_of rfl rfl h
theorem C_laws_eqIntS {args : List PV} {M : List Blk} {r : PV × List Blk} (h : W C M.length ir_laws_eqIntS.body ⟨start ir_laws_eqIntS args, M⟩ (Lv M.length ir_laws_eqIntS.results r)) : C f_laws_eqIntS args M = some r := call_of rfl rfl h
theorem C_laws_eqTrans {args : List PV} {M : List Blk} {r : PV × List Blk} (h : W C M.length ir_laws_eqTrans.body ⟨start ir_laws_eqTrans args, M⟩ (Lv M.length ir_laws_eqTrans.results r)) : C f_laws_eqTrans args M = some r := call_of rfl rfl h
theorem C_laws_eqTransS {args : List PV} {M : List Blk} {r : PV × List Blk} (h : W C M.length ir_laws_eqTransS.body ⟨start ir_laws_eqTransS args, M⟩ (Lv M.length ir_laws_eqTransS.results r)) : C f_laws_eqTransS args M = some r := call_of rfl rfl h
theorem C_laws_eqNet {args : List PV} {M : List Blk} {r : PV × List Blk} (h : W C M.length ir_laws_eqNet.body ⟨start ir_laws_eqNet args, M⟩ (Lv M.length ir_laws_eqNet.results r)) : C f_laws_eqNet args M = some r := call_of rfl rfl h
theorem C_laws_FnExactGoodLetters {args : List PV} {M : List Blk} {r : PV × List Blk} (h : W C M.length ir_laws_FnExactGoodLetters.body ⟨start ir_laws_FnExactGoodLetters args, M⟩ (Lv M.length ir_laws_FnExactGoodLetters.results r)) : C f_laws_FnExactGoodLetters args M = some r := call_of rfl rfl h
end Go.Proofs.Ytoimodnlefadhaa.Pi
