/- The forms of the functions that the law reaches, and their oracle. Definitions alone; no condition. -/
import Derived.Test.YtoimodnlefadhaaPiExt
namespace Go.Proofs.Ytoimodnlefadhaa.Pi
open Go
set_option linter.all false
abbrev t_int : TypeId := 3
abbrev t_impl_Branch : TypeId := 84
abbrev t_laws_Branch : TypeId := 86
abbrev f_laws_szBranchS : FuncId := 21
abbrev f_laws_toBranch : FuncId := 54
abbrev f_laws_toBranchS : FuncId := 23
abbrev f_spec_l1In : FuncId := 66
abbrev f_spec_l11Good : FuncId := 52
abbrev f_spec_l11First : FuncId := 81
abbrev f_spec_l1Least : FuncId := 82
abbrev f_spec_l11Short : FuncId := 53
abbrev f_spec_ShortestOf : FuncId := 22
abbrev f_impl_within : FuncId := 76
abbrev f_impl_isTree : FuncId := 55
abbrev f_impl_ShortestOf : FuncId := 24
abbrev f_laws_eqBranch : FuncId := 56
abbrev f_laws_eqBranchS : FuncId := 25
abbrev f_laws_FnExactShortestOf : FuncId := 5
def ir_laws_szBranchS : IFun := ⟨[0, 1, 4, 10],
  (.seq (.region false [] [⟨some 2, .mov (.c (.int .i64 0)), none⟩])
  (.seq (.region false [] [⟨none, .mov (.v 1), none⟩, ⟨none, .mov (.v 0), none⟩, ⟨none, .len false (.r 1), none⟩, ⟨none, .bin false .sub (.r 0) (.r 2), none⟩, ⟨some 1, .mov (.r 3), none⟩])
  (.seq (.seq (.region false [] [⟨none, .mov (.v 1), none⟩, ⟨some 3, .bin false .lss (.r 0) (.c (.int .i64 0)), none⟩])
  (.cond (.v 3) (.seq (.region false [] [⟨some 2, .mov (.c (.int .i64 (-1))), none⟩])
  .ret) .skip))
  (.seq (.region false [] [⟨none, .mov (.v 1), none⟩, ⟨some 2, .mov (.r 0), none⟩])
  .ret)))),
  [.v 2]⟩
def ir_laws_toBranch : IFun := ⟨[0, 1, 2, 3],
  (.seq (.region false [] [⟨some 1, .box t_laws_Branch 2 (.v 0), none⟩, ⟨some 2, .alloc t_impl_Branch [(.int .i64 0), (.int .i64 0)], none⟩])
  (.seq (.region false [] [⟨some 3, .alloc t_impl_Branch [(.int .i64 0), (.int .i64 0)], none⟩])
  (.seq (.region false [] [⟨none, .faddr 0 (.v 1), none⟩, ⟨none, .load false 1 (.r 0), none⟩, ⟨none, .faddr 0 (.v 3), none⟩, ⟨none, .store 1 (.r 2) (.r 1), none⟩])
  (.seq (.region false [] [⟨none, .faddr 1 (.v 1), none⟩, ⟨none, .load false 1 (.r 0), none⟩, ⟨none, .faddr 1 (.v 3), none⟩, ⟨none, .store 1 (.r 2) (.r 1), none⟩])
  (.seq (.region false [] [⟨none, .load true 2 (.v 3), none⟩, ⟨none, .store 2 (.v 2) (.r 0), none⟩])
  .ret))))),
  [.cell true 2 2]⟩
def ir_laws_toBranchS : IFun := ⟨[0, 2, 3, 4, 11],
  (.seq (.region false [] [⟨some 1, .nilrow t_impl_Branch true 2, none⟩])
  (.seq (.region false [] [⟨none, .mov (.v 0), none⟩, ⟨none, .len false (.r 0), none⟩, ⟨none, .mk t_impl_Branch true 2 (.agg [(.int .i64 0), (.int .i64 0)]) (.r 1), none⟩, ⟨some 2, .mov (.r 2), none⟩])
  (.seq (.seq (.region false [] [⟨some 3, .mov (.c (.int .i64 0)), none⟩])
  (.block 0 (.loop [true, false, true, true, false] (.seq (.seq (.region false [] [⟨none, .mov (.v 3), none⟩, ⟨none, .mov (.v 0), none⟩, ⟨none, .len false (.r 1), none⟩, ⟨some 4, .bin false .lss (.r 0) (.r 2), none⟩])
  (.cond (.v 4) .skip (.exit 0)))
  (.seq (.block 1 (.region false [] [⟨none, .mov (.v 2), none⟩, ⟨none, .mov (.v 3), none⟩, ⟨none, .mov (.v 0), none⟩, ⟨none, .mov (.v 3), none⟩, ⟨none, .iaddr 2 (.r 2) (.r 3), none⟩, ⟨none, .load true 2 (.r 4), none⟩, ⟨none, .call false f_laws_toBranch [(.r 5)], none⟩, ⟨none, .iaddr 2 (.r 0) (.r 1), none⟩, ⟨none, .store 2 (.r 7) (.r 6), none⟩]))
  (.region false [] [⟨none, .mov (.v 3), none⟩, ⟨none, .bin false .add (.r 0) (.c (.int .i64 1)), none⟩, ⟨some 3, .mov (.r 1), none⟩]))))))
  (.seq (.region false [] [⟨none, .mov (.v 2), none⟩, ⟨some 1, .mov (.r 0), none⟩])
  .ret)))),
  [.v 1]⟩
def ir_spec_l1In : IFun := ⟨[0, 1, 2, 6],
  (.seq (.region false [] [⟨some 3, .mov (.c (.bool false)), none⟩])
  (.seq (.region false [] [⟨none, .mov (.v 0), none⟩, ⟨none, .mov (.v 1), none⟩, ⟨none, .bin false .geq (.r 0) (.r 1), none⟩, ⟨none, .mov (.r 2), none⟩, ⟨none, .mov (.v 0), some (3, true)⟩, ⟨none, .mov (.v 2), some (3, true)⟩, ⟨none, .bin false .leq (.r 4) (.r 5), some (3, true)⟩, ⟨none, .pick (.r 3) (.r 6) (.c (.bool false)), none⟩, ⟨some 3, .mov (.r 7), none⟩])
  .ret)),
  [.v 3]⟩
def ir_spec_l11Good : IFun := ⟨[0, 2, 3, 5, 9, 10, 11, 12, 13, 16, 27],
  (.seq (.region false [] [⟨some 1, .mov (.c (.bool false)), none⟩])
  (.seq (.seq (.region false [] [⟨none, .mov (.v 0), none⟩, ⟨none, .len false (.r 0), none⟩, ⟨none, .call false f_spec_l1In [(.r 1), (.c (.int .i64 1)), (.c (.int .i64 15))], none⟩, ⟨some 4, .not (.r 2), none⟩])
  (.cond (.v 4) (.seq (.region false [] [⟨some 1, .mov (.c (.bool false)), none⟩])
  .ret) .skip))
  (.seq (.region false [] [⟨some 2, .mov (.c (.int .i64 0)), none⟩])
  (.seq (.seq (.region false [] [⟨some 5, .mov (.v 0), none⟩, ⟨some 6, .len false (.v 5), none⟩, ⟨some 7, .mov (.c (.int .i64 0)), none⟩])
  (.block 0 (.loop [false, false, true, false, false, true, true, true, false, false, false] (.seq (.region false [] [⟨some 8, .bin false .lss (.v 7) (.v 6), none⟩])
  (.seq (.cond (.v 8) .skip (.exit 0))
  (.seq (.block 1 (.seq (.region false [] [⟨none, .iaddr 2 (.v 5) (.v 7), none⟩, ⟨none, .load true 2 (.r 0), none⟩, ⟨some 3, .alloc t_impl_Branch [(.int .i64 0), (.int .i64 0)], none⟩, ⟨none, .store 2 (.v 3) (.r 1), none⟩])
  (.block 2 (.seq (.region false [] [⟨none, .faddr 0 (.v 3), none⟩, ⟨none, .load false 1 (.r 0), none⟩, ⟨none, .bin false .eql (.r 1) (.c (.int .i64 1)), none⟩, ⟨none, .mov (.r 2), none⟩, ⟨none, .faddr 1 (.v 3), some (3, true)⟩, ⟨none, .load false 1 (.r 4), some (3, true)⟩, ⟨none, .call false f_spec_l1In [(.r 5), (.c (.int .i64 1)), (.c (.int .i64 9))], some (3, true)⟩, ⟨none, .pick (.r 3) (.r 6) (.c (.bool false)), none⟩, ⟨some 9, .mov (.r 7), none⟩])
  (.cond (.v 9) (.region false [] [⟨none, .mov (.v 2), none⟩, ⟨none, .bin false .add (.r 0) (.c (.int .i64 1)), none⟩, ⟨some 2, .mov (.r 1), none⟩]) (.seq (.region false [] [⟨none, .faddr 0 (.v 3), none⟩, ⟨none, .load false 1 (.r 0), none⟩, ⟨none, .call false f_spec_l1In [(.r 1), (.c (.int .i64 2)), (.c (.int .i64 5))], none⟩, ⟨none, .mov (.r 2), none⟩, ⟨none, .faddr 1 (.v 3), some (3, true)⟩, ⟨none, .load false 1 (.r 4), some (3, true)⟩, ⟨none, .bin false .eql (.r 5) (.c (.int .i64 0)), some (3, true)⟩, ⟨none, .pick (.r 3) (.r 6) (.c (.bool false)), none⟩, ⟨none, .mov (.r 7), none⟩, ⟨none, .mov (.v 2), some (8, true)⟩, ⟨none, .bin false .geq (.r 9) (.c (.int .i64 2)), some (8, true)⟩, ⟨none, .pick (.r 8) (.r 10) (.c (.bool false)), none⟩, ⟨some 10, .mov (.r 11), none⟩])
  (.cond (.v 10) (.region false [] [⟨none, .mov (.v 2), none⟩, ⟨none, .bin false .sub (.r 0) (.c (.int .i64 1)), none⟩, ⟨some 2, .mov (.r 1), none⟩]) (.seq (.region false [] [⟨some 1, .mov (.c (.bool false)), none⟩])
  .ret))))))))
  (.region false [] [⟨none, .bin false .add (.v 7) (.c (.int .i64 1)), none⟩, ⟨some 7, .mov (.r 0), none⟩])))))))
  (.seq (.region false [] [⟨none, .mov (.v 2), none⟩, ⟨none, .bin false .eql (.r 0) (.c (.int .i64 1)), none⟩, ⟨some 1, .mov (.r 1), none⟩])
  .ret))))),
  [.v 1]⟩
def ir_spec_l11First : IFun := ⟨[0, 1, 4, 5, 6, 10, 18],
  (.seq (.region false [] [⟨some 2, .mov (.c (.int .i64 0)), none⟩])
  (.seq (.region false [] [⟨some 3, .mov (.c (.int .i64 1)), none⟩])
  (.seq (.region false [] [⟨none, .mov (.v 1), none⟩, ⟨none, .bin false .sub (.r 0) (.c (.int .i64 1)), none⟩, ⟨some 4, .mov (.r 1), none⟩])
  (.seq (.block 0 (.loop [true, false, false, true, true, false, false] (.seq (.seq (.region false [] [⟨none, .mov (.v 3), none⟩, ⟨some 5, .bin false .gtr (.r 0) (.c (.int .i64 0)), none⟩])
  (.cond (.v 5) .skip (.exit 0)))
  (.block 1 (.seq (.region false [] [⟨none, .mov (.v 3), none⟩, ⟨none, .bin false .sub (.r 0) (.c (.int .i64 1)), none⟩, ⟨some 3, .mov (.r 1), none⟩])
  (.seq (.seq (.region false [] [⟨none, .mov (.v 0), none⟩, ⟨none, .mov (.v 4), none⟩, ⟨none, .iaddr 2 (.r 0) (.r 1), none⟩, ⟨none, .faddr 0 (.r 2), none⟩, ⟨none, .load false 1 (.r 3), none⟩, ⟨some 6, .bin false .neq (.r 4) (.c (.int .i64 1)), none⟩])
  (.cond (.v 6) (.region false [] [⟨none, .mov (.v 3), none⟩, ⟨none, .bin false .add (.r 0) (.c (.int .i64 2)), none⟩, ⟨some 3, .mov (.r 1), none⟩]) .skip))
  (.region false [] [⟨none, .mov (.v 4), none⟩, ⟨none, .bin false .sub (.r 0) (.c (.int .i64 1)), none⟩, ⟨some 4, .mov (.r 1), none⟩])))))))
  (.seq (.region false [] [⟨none, .mov (.v 4), none⟩, ⟨some 2, .mov (.r 0), none⟩])
  .ret))))),
  [.v 2]⟩
def ir_spec_l1Least : IFun := ⟨[0, 1, 4, 7],
  (.seq (.region false [] [⟨some 2, .mov (.c (.int .i64 0)), none⟩])
  (.seq (.seq (.region false [] [⟨none, .mov (.v 0), none⟩, ⟨none, .mov (.v 1), none⟩, ⟨some 3, .bin false .lss (.r 0) (.r 1), none⟩])
  (.cond (.v 3) (.seq (.region false [] [⟨none, .mov (.v 0), none⟩, ⟨some 2, .mov (.r 0), none⟩])
  .ret) .skip))
  (.seq (.region false [] [⟨none, .mov (.v 1), none⟩, ⟨some 2, .mov (.r 0), none⟩])
  .ret))),
  [.v 2]⟩
def ir_spec_l11Short : IFun := ⟨[0, 1, 4, 5, 6, 13, 20, 21, 29],
  (.seq (.region false [] [⟨some 2, .mov (.c (.int .i64 0)), none⟩])
  (.seq (.region false [] [⟨none, .mov (.v 0), none⟩, ⟨none, .mov (.v 1), none⟩, ⟨none, .iaddr 2 (.r 0) (.r 1), none⟩, ⟨none, .load true 2 (.r 2), none⟩, ⟨some 3, .alloc t_impl_Branch [(.int .i64 0), (.int .i64 0)], none⟩, ⟨none, .store 2 (.v 3) (.r 3), none⟩])
  (.seq (.seq (.region false [] [⟨none, .faddr 0 (.v 3), none⟩, ⟨none, .load false 1 (.r 0), none⟩, ⟨some 5, .bin false .eql (.r 1) (.c (.int .i64 1)), none⟩])
  (.cond (.v 5) (.seq (.region false [] [⟨some 2, .mov (.c (.int .i64 1)), none⟩])
  .ret) .skip))
  (.seq (.region false [] [⟨none, .mov (.v 0), none⟩, ⟨none, .mov (.v 0), none⟩, ⟨none, .mov (.v 1), none⟩, ⟨none, .call false f_spec_l11First [(.r 1), (.r 2)], none⟩, ⟨none, .call false f_spec_l11Short [(.r 0), (.r 3)], none⟩, ⟨some 4, .mov (.r 4), none⟩])
  (.seq (.seq (.region false [] [⟨none, .faddr 0 (.v 3), none⟩, ⟨some 6, .load false 1 (.r 0), none⟩])
  (.block 0 (.seq (.region false [] [⟨none, .bin false .eql (.v 6) (.c (.int .i64 3)), none⟩, ⟨some 7, .mov (.r 0), none⟩])
  (.cond (.v 7) (.seq (.region false [] [⟨none, .mov (.v 4), none⟩, ⟨none, .mov (.v 0), none⟩, ⟨none, .mov (.v 1), none⟩, ⟨none, .bin false .sub (.r 2) (.c (.int .i64 1)), none⟩, ⟨none, .call false f_spec_l11Short [(.r 1), (.r 3)], none⟩, ⟨none, .call false f_spec_l1Least [(.r 0), (.r 4)], none⟩, ⟨some 2, .mov (.r 5), none⟩])
  .ret) (.seq (.region false [] [⟨none, .bin false .eql (.v 6) (.c (.int .i64 5)), none⟩, ⟨some 8, .mov (.r 0), none⟩])
  (.cond (.v 8) (.seq (.region false [] [⟨none, .mov (.v 4), none⟩, ⟨some 2, .mov (.r 0), none⟩])
  .ret) .skip))))))
  (.seq (.region false [] [⟨none, .mov (.v 4), none⟩, ⟨none, .mov (.v 0), none⟩, ⟨none, .mov (.v 1), none⟩, ⟨none, .bin false .sub (.r 2) (.c (.int .i64 1)), none⟩, ⟨none, .call false f_spec_l11Short [(.r 1), (.r 3)], none⟩, ⟨none, .bin false .add (.r 0) (.r 4), none⟩, ⟨some 2, .mov (.r 5), none⟩])
  .ret)))))),
  [.v 2]⟩
def ir_spec_ShortestOf : IFun := ⟨[0, 2, 3, 6],
  (.seq (.region false [] [⟨some 1, .mov (.c (.int .i64 0)), none⟩, ⟨some 2, .mov (.c (.bool false)), none⟩])
  (.seq (.seq (.region false [] [⟨none, .mov (.v 0), none⟩, ⟨none, .call false f_spec_l11Good [(.r 0)], none⟩, ⟨some 3, .not (.r 1), none⟩])
  (.cond (.v 3) (.seq (.region false [] [⟨some 1, .mov (.c (.int .i64 0)), none⟩, ⟨some 2, .mov (.c (.bool false)), none⟩])
  .ret) .skip))
  (.seq (.region false [] [⟨none, .mov (.v 0), none⟩, ⟨none, .mov (.v 0), none⟩, ⟨none, .len false (.r 1), none⟩, ⟨none, .bin false .sub (.r 2) (.c (.int .i64 1)), none⟩, ⟨none, .call false f_spec_l11Short [(.r 0), (.r 3)], none⟩, ⟨some 1, .mov (.r 4), none⟩, ⟨some 2, .mov (.c (.bool true)), none⟩])
  .ret))),
  [.v 1, .v 2]⟩
def ir_impl_within : IFun := ⟨[0, 1, 2, 6],
  (.seq (.region false [] [⟨some 3, .mov (.c (.bool false)), none⟩])
  (.seq (.region false [] [⟨none, .mov (.v 0), none⟩, ⟨none, .mov (.v 1), none⟩, ⟨none, .bin false .geq (.r 0) (.r 1), none⟩, ⟨none, .mov (.r 2), none⟩, ⟨none, .mov (.v 0), some (3, true)⟩, ⟨none, .mov (.v 2), some (3, true)⟩, ⟨none, .bin false .leq (.r 4) (.r 5), some (3, true)⟩, ⟨none, .pick (.r 3) (.r 6) (.c (.bool false)), none⟩, ⟨some 3, .mov (.r 7), none⟩])
  .ret)),
  [.v 3]⟩
def ir_impl_isTree : IFun := ⟨[0, 2, 3, 5, 6, 7, 8, 9, 12, 23],
  (.seq (.region false [] [⟨some 1, .mov (.c (.bool false)), none⟩])
  (.seq (.region false [] [⟨some 2, .mov (.c (.int .i64 0)), none⟩])
  (.seq (.seq (.region false [] [⟨some 4, .mov (.v 0), none⟩, ⟨some 5, .len false (.v 4), none⟩, ⟨some 6, .mov (.c (.int .i64 0)), none⟩])
  (.block 0 (.loop [true, false, true, false, true, true, true, false, false, false] (.seq (.region false [] [⟨some 7, .bin false .lss (.v 6) (.v 5), none⟩])
  (.seq (.cond (.v 7) .skip (.exit 0))
  (.seq (.block 1 (.seq (.region false [] [⟨none, .iaddr 2 (.v 4) (.v 6), none⟩, ⟨none, .load true 2 (.r 0), none⟩, ⟨some 3, .alloc t_impl_Branch [(.int .i64 0), (.int .i64 0)], none⟩, ⟨none, .store 2 (.v 3) (.r 1), none⟩])
  (.block 2 (.seq (.region false [] [⟨none, .faddr 0 (.v 3), none⟩, ⟨none, .load false 1 (.r 0), none⟩, ⟨none, .bin false .eql (.r 1) (.c (.int .i64 1)), none⟩, ⟨none, .mov (.r 2), none⟩, ⟨none, .faddr 1 (.v 3), some (3, true)⟩, ⟨none, .load false 1 (.r 4), some (3, true)⟩, ⟨none, .call false f_impl_within [(.r 5), (.c (.int .i64 1)), (.c (.int .i64 9))], some (3, true)⟩, ⟨none, .pick (.r 3) (.r 6) (.c (.bool false)), none⟩, ⟨some 8, .mov (.r 7), none⟩])
  (.cond (.v 8) (.region false [] [⟨none, .mov (.v 2), none⟩, ⟨none, .bin false .add (.r 0) (.c (.int .i64 1)), none⟩, ⟨some 2, .mov (.r 1), none⟩]) (.seq (.region false [] [⟨none, .faddr 0 (.v 3), none⟩, ⟨none, .load false 1 (.r 0), none⟩, ⟨none, .call false f_impl_within [(.r 1), (.c (.int .i64 2)), (.c (.int .i64 5))], none⟩, ⟨none, .mov (.r 2), none⟩, ⟨none, .faddr 1 (.v 3), some (3, true)⟩, ⟨none, .load false 1 (.r 4), some (3, true)⟩, ⟨none, .bin false .eql (.r 5) (.c (.int .i64 0)), some (3, true)⟩, ⟨none, .pick (.r 3) (.r 6) (.c (.bool false)), none⟩, ⟨none, .mov (.r 7), none⟩, ⟨none, .mov (.v 2), some (8, true)⟩, ⟨none, .bin false .gtr (.r 9) (.c (.int .i64 1)), some (8, true)⟩, ⟨none, .pick (.r 8) (.r 10) (.c (.bool false)), none⟩, ⟨some 9, .mov (.r 11), none⟩])
  (.cond (.v 9) (.region false [] [⟨none, .mov (.v 2), none⟩, ⟨none, .bin false .sub (.r 0) (.c (.int .i64 1)), none⟩, ⟨some 2, .mov (.r 1), none⟩]) (.seq (.region false [] [⟨some 1, .mov (.c (.bool false)), none⟩])
  .ret))))))))
  (.region false [] [⟨none, .bin false .add (.v 6) (.c (.int .i64 1)), none⟩, ⟨some 6, .mov (.r 0), none⟩])))))))
  (.seq (.region false [] [⟨none, .mov (.v 2), none⟩, ⟨none, .bin false .eql (.r 0) (.c (.int .i64 1)), none⟩, ⟨none, .mov (.r 1), none⟩, ⟨none, .mov (.v 0), some (2, true)⟩, ⟨none, .len false (.r 3), some (2, true)⟩, ⟨none, .bin false .leq (.r 4) (.c (.int .i64 15)), some (2, true)⟩, ⟨none, .pick (.r 2) (.r 5) (.c (.bool false)), none⟩, ⟨some 1, .mov (.r 6), none⟩])
  .ret)))),
  [.v 1]⟩
def ir_impl_ShortestOf : IFun := ⟨[0, 2, 3, 4, 6, 7, 10, 11, 12, 13, 14, 20, 21, 26, 41],
  (.seq (.region false [] [⟨some 1, .mov (.c (.int .i64 0)), none⟩, ⟨some 2, .mov (.c (.bool false)), none⟩])
  (.seq (.seq (.region false [] [⟨none, .mov (.v 0), none⟩, ⟨none, .call false f_impl_isTree [(.r 0)], none⟩, ⟨some 6, .not (.r 1), none⟩])
  (.cond (.v 6) (.seq (.region false [] [⟨some 1, .mov (.c (.int .i64 0)), none⟩, ⟨some 2, .mov (.c (.bool false)), none⟩])
  .ret) .skip))
  (.seq (.region false [] [⟨some 3, .nilrow t_int true 1, none⟩])
  (.seq (.seq (.region false [] [⟨some 7, .mov (.v 0), none⟩, ⟨some 8, .len false (.v 7), none⟩, ⟨some 9, .mov (.c (.int .i64 0)), none⟩])
  (.block 0 (.loop [false, false, false, true, false, false, false, true, true, true, false, false, false, false, false] (.seq (.region false [] [⟨some 10, .bin false .lss (.v 9) (.v 8), none⟩])
  (.seq (.cond (.v 10) .skip (.exit 0))
  (.seq (.block 1 (.seq (.region false [] [⟨none, .iaddr 2 (.v 7) (.v 9), none⟩, ⟨none, .load true 2 (.r 0), none⟩, ⟨some 4, .alloc t_impl_Branch [(.int .i64 0), (.int .i64 0)], none⟩, ⟨none, .store 2 (.v 4) (.r 1), none⟩])
  (.seq (.region false [] [⟨none, .mov (.v 3), none⟩, ⟨none, .len false (.r 0), none⟩, ⟨some 5, .mov (.r 1), none⟩])
  (.seq (.seq (.region false [] [⟨none, .faddr 0 (.v 4), none⟩, ⟨some 11, .load false 1 (.r 0), none⟩])
  (.block 2 (.seq (.region false [] [⟨none, .bin false .eql (.v 11) (.c (.int .i64 1)), none⟩, ⟨some 12, .mov (.r 0), none⟩])
  (.cond (.v 12) (.seq (.region false [] [⟨none, .mov (.v 3), none⟩, ⟨none, .bslice false t_int true 1 [(.c (.int .i64 1))], none⟩, ⟨none, .append t_int true 1 (.r 0) (.r 1), none⟩, ⟨some 3, .mov (.r 2), none⟩])
  (.exit 1)) (.seq (.seq (.region false [] [⟨none, .bin false .eql (.v 11) (.c (.int .i64 2)), none⟩, ⟨some 13, .mov (.r 0), none⟩])
  (.cond (.v 13) .skip (.region false [] [⟨none, .bin false .eql (.v 11) (.c (.int .i64 4)), none⟩, ⟨some 13, .mov (.r 0), none⟩])))
  (.cond (.v 13) (.region true [] [⟨none, .mov (.v 3), none⟩, ⟨none, .mov (.v 5), none⟩, ⟨none, .bin false .sub (.r 1) (.c (.int .i64 2)), none⟩, ⟨none, .iaddr 1 (.r 0) (.r 2), none⟩, ⟨none, .load false 1 (.r 3), none⟩, ⟨none, .mov (.v 3), none⟩, ⟨none, .mov (.v 5), none⟩, ⟨none, .bin false .sub (.r 6) (.c (.int .i64 1)), none⟩, ⟨none, .iaddr 1 (.r 5) (.r 7), none⟩, ⟨none, .load false 1 (.r 8), none⟩, ⟨none, .bin false .add (.r 4) (.r 9), none⟩, ⟨none, .iaddr 1 (.r 0) (.r 2), none⟩, ⟨none, .store 1 (.r 11) (.r 10), none⟩]) (.seq (.region false [] [⟨none, .bin false .eql (.v 11) (.c (.int .i64 3)), none⟩, ⟨some 14, .mov (.r 0), none⟩])
  (.cond (.v 14) (.region true [] [⟨none, .mov (.v 3), none⟩, ⟨none, .mov (.v 5), none⟩, ⟨none, .bin false .sub (.r 1) (.c (.int .i64 2)), none⟩, ⟨none, .mov (.v 3), none⟩, ⟨none, .mov (.v 5), none⟩, ⟨none, .bin false .sub (.r 4) (.c (.int .i64 2)), none⟩, ⟨none, .iaddr 1 (.r 3) (.r 5), none⟩, ⟨none, .load false 1 (.r 6), none⟩, ⟨none, .mov (.v 3), none⟩, ⟨none, .mov (.v 5), none⟩, ⟨none, .bin false .sub (.r 9) (.c (.int .i64 1)), none⟩, ⟨none, .iaddr 1 (.r 8) (.r 10), none⟩, ⟨none, .load false 1 (.r 11), none⟩, ⟨none, .mnmx false (.r 7) (.r 12), none⟩, ⟨none, .iaddr 1 (.r 0) (.r 2), none⟩, ⟨none, .store 1 (.r 14) (.r 13), none⟩]) .skip))))))))
  (.region false [] [⟨none, .mov (.v 3), none⟩, ⟨none, .mov (.v 5), none⟩, ⟨none, .bin false .sub (.r 1) (.c (.int .i64 1)), none⟩, ⟨none, .slice 1 (.r 0) none (some (.r 2)), none⟩, ⟨some 3, .mov (.r 3), none⟩])))))
  (.region false [] [⟨none, .bin false .add (.v 9) (.c (.int .i64 1)), none⟩, ⟨some 9, .mov (.r 0), none⟩])))))))
  (.seq (.region false [] [⟨none, .mov (.v 3), none⟩, ⟨none, .iaddr 1 (.r 0) (.c (.int .i64 0)), none⟩, ⟨none, .load false 1 (.r 1), none⟩, ⟨some 1, .mov (.r 2), none⟩, ⟨some 2, .mov (.c (.bool true)), none⟩])
  .ret))))),
  [.v 1, .v 2]⟩
def ir_laws_eqBranch : IFun := ⟨[0, 1, 2, 3, 4, 9, 14],
  (.seq (.region false [] [⟨some 2, .box t_impl_Branch 2 (.v 0), none⟩, ⟨some 3, .box t_impl_Branch 2 (.v 1), none⟩, ⟨some 4, .mov (.c (.bool false)), none⟩])
  (.seq (.seq (.region false [] [⟨none, .faddr 0 (.v 2), none⟩, ⟨none, .load false 1 (.r 0), none⟩, ⟨none, .faddr 0 (.v 3), none⟩, ⟨none, .load false 1 (.r 2), none⟩, ⟨some 5, .bin false .neq (.r 1) (.r 3), none⟩])
  (.cond (.v 5) (.seq (.region false [] [⟨some 4, .mov (.c (.bool false)), none⟩])
  .ret) .skip))
  (.seq (.seq (.region false [] [⟨none, .faddr 1 (.v 2), none⟩, ⟨none, .load false 1 (.r 0), none⟩, ⟨none, .faddr 1 (.v 3), none⟩, ⟨none, .load false 1 (.r 2), none⟩, ⟨some 6, .bin false .neq (.r 1) (.r 3), none⟩])
  (.cond (.v 6) (.seq (.region false [] [⟨some 4, .mov (.c (.bool false)), none⟩])
  .ret) .skip))
  (.seq (.region false [] [⟨some 4, .mov (.c (.bool true)), none⟩])
  .ret)))),
  [.v 4]⟩
def ir_laws_eqBranchS : IFun := ⟨[0, 1, 4, 5, 10, 14, 26],
  (.seq (.region false [] [⟨some 2, .mov (.c (.bool false)), none⟩])
  (.seq (.seq (.region false [] [⟨none, .mov (.v 0), none⟩, ⟨none, .len false (.r 0), none⟩, ⟨none, .mov (.v 1), none⟩, ⟨none, .len false (.r 2), none⟩, ⟨some 4, .bin false .neq (.r 1) (.r 3), none⟩])
  (.cond (.v 4) (.seq (.region false [] [⟨some 2, .mov (.c (.bool false)), none⟩])
  .ret) .skip))
  (.seq (.seq (.region false [] [⟨some 3, .mov (.c (.int .i64 0)), none⟩])
  (.block 0 (.loop [true, true, false, true, false, false, false] (.seq (.seq (.region false [] [⟨none, .mov (.v 3), none⟩, ⟨none, .mov (.v 0), none⟩, ⟨none, .len false (.r 1), none⟩, ⟨some 5, .bin false .lss (.r 0) (.r 2), none⟩])
  (.cond (.v 5) .skip (.exit 0)))
  (.seq (.block 1 (.seq (.region true [] [⟨none, .mov (.v 0), none⟩, ⟨none, .mov (.v 3), none⟩, ⟨none, .iaddr 2 (.r 0) (.r 1), none⟩, ⟨none, .load true 2 (.r 2), none⟩, ⟨none, .mov (.v 1), none⟩, ⟨none, .mov (.v 3), none⟩, ⟨none, .iaddr 2 (.r 4) (.r 5), none⟩, ⟨none, .load true 2 (.r 6), none⟩, ⟨none, .call false f_laws_eqBranch [(.r 3), (.r 7)], none⟩, ⟨some 6, .not (.r 8), none⟩])
  (.cond (.v 6) (.seq (.region false [] [⟨some 2, .mov (.c (.bool false)), none⟩])
  .ret) .skip)))
  (.region false [] [⟨none, .mov (.v 3), none⟩, ⟨none, .bin false .add (.r 0) (.c (.int .i64 1)), none⟩, ⟨some 3, .mov (.r 1), none⟩]))))))
  (.seq (.region false [] [⟨some 2, .mov (.c (.bool true)), none⟩])
  .ret)))),
  [.v 2]⟩
def ir_laws_FnExactShortestOf : IFun := ⟨[0, 2, 3, 4, 5, 6, 7, 8, 13, 34, 39],
  (.seq (.region false [] [⟨some 1, .mov (.c (.bool false)), none⟩])
  (.seq (.region false [] [⟨some 2, .mov (.c (.int .i64 1048576)), none⟩])
  (.seq (.region false [] [⟨none, .mov (.v 0), none⟩, ⟨none, .mov (.v 2), none⟩, ⟨none, .call false f_laws_szBranchS [(.r 0), (.r 1)], none⟩, ⟨some 2, .mov (.r 2), none⟩])
  (.seq (.seq (.region false [] [⟨none, .mov (.v 2), none⟩, ⟨some 8, .bin false .lss (.r 0) (.c (.int .i64 0)), none⟩])
  (.cond (.v 8) (.seq (.region false [] [⟨some 1, .mov (.c (.bool true)), none⟩])
  .ret) .skip))
  (.seq (.region false [] [⟨none, .mov (.v 0), none⟩, ⟨none, .call false f_laws_toBranchS [(.r 0)], none⟩, ⟨none, .call false f_spec_ShortestOf [(.r 1)], none⟩, ⟨none, .mov (.r 2), none⟩, ⟨none, .extract (.r 3) 0, none⟩, ⟨none, .extract (.r 3) 1, none⟩, ⟨some 3, .mov (.r 4), none⟩, ⟨some 4, .mov (.r 5), none⟩])
  (.seq (.region false [] [⟨none, .mov (.v 0), none⟩, ⟨none, .call false f_laws_toBranchS [(.r 0)], none⟩, ⟨some 5, .mov (.r 1), none⟩])
  (.seq (.region false [] [⟨none, .mov (.v 5), none⟩, ⟨none, .call false f_impl_ShortestOf [(.r 0)], none⟩, ⟨none, .mov (.r 1), none⟩, ⟨none, .extract (.r 2) 0, none⟩, ⟨none, .extract (.r 2) 1, none⟩, ⟨some 6, .mov (.r 3), none⟩, ⟨some 7, .mov (.r 4), none⟩])
  (.seq (.seq (.region false [] [⟨none, .mov (.v 6), none⟩, ⟨none, .mov (.v 3), none⟩, ⟨none, .bin false .neq (.r 0) (.r 1), none⟩, ⟨none, .mov (.r 2), none⟩, ⟨none, .mov (.v 7), some (3, false)⟩, ⟨none, .mov (.v 4), some (3, false)⟩, ⟨none, .bin true .neq (.r 4) (.r 5), some (3, false)⟩, ⟨some 9, .pick (.r 3) (.c (.bool true)) (.r 6), none⟩])
  (.cond (.v 9) (.seq (.region false [] [⟨some 1, .mov (.c (.bool false)), none⟩])
  .ret) .skip))
  (.seq (.seq (.region false [] [⟨none, .mov (.v 5), none⟩, ⟨none, .mov (.v 0), none⟩, ⟨none, .call false f_laws_toBranchS [(.r 1)], none⟩, ⟨none, .call false f_laws_eqBranchS [(.r 0), (.r 2)], none⟩, ⟨some 10, .not (.r 3), none⟩])
  (.cond (.v 10) (.seq (.region false [] [⟨some 1, .mov (.c (.bool false)), none⟩])
  .ret) .skip))
  (.seq (.region false [] [⟨some 1, .mov (.c (.bool true)), none⟩])
  .ret)))))))))),
  [.v 1]⟩
def tbl : List (FuncId × IFun) := [(f_laws_szBranchS, ir_laws_szBranchS), (f_laws_toBranch, ir_laws_toBranch), (f_laws_toBranchS, ir_laws_toBranchS), (f_spec_l1In, ir_spec_l1In), (f_spec_l11Good, ir_spec_l11Good), (f_spec_l11First, ir_spec_l11First), (f_spec_l1Least, ir_spec_l1Least), (f_spec_l11Short, ir_spec_l11Short), (f_spec_ShortestOf, ir_spec_ShortestOf), (f_impl_within, ir_impl_within), (f_impl_isTree, ir_impl_isTree), (f_impl_ShortestOf, ir_impl_ShortestOf), (f_laws_eqBranch, ir_laws_eqBranch), (f_laws_eqBranchS, ir_laws_eqBranchS), (f_laws_FnExactShortestOf, ir_laws_FnExactShortestOf)]
def F (f : FuncId) : Option IFun := (tbl.find? fun p => p.1 == f).map (·.2)
def exts : List (FuncId × (List PV → Option PV)) := []
def ext (f : FuncId) : Option (List PV → Option PV) := (exts.find? fun p => p.1 == f).map (·.2)
noncomputable def C : Orc := lim F ext
theorem C_laws_szBranchS {args : List PV} {M : List Blk} {r : PV × List Blk} (h : W C M.length ir_laws_szBranchS.body ⟨start ir_laws_szBranchS args, M⟩ (Lv M.length ir_laws_szBranchS.results r)) : C f_laws_szBranchS args M = some r := call_of rfl rfl h
theorem C_laws_toBranch {args : List PV} {M : List Blk} {r : PV × List Blk} (h : W C M.length ir_laws_toBranch.body ⟨start ir_laws_toBranch args, M⟩ (Lv M.length ir_laws_toBranch.results r)) : C f_laws_toBranch args M = some r := call_of rfl rfl h
theorem C_laws_toBranchS {args : List PV} {M : List Blk} {r : PV × List Blk} (h : W C M.length ir_laws_toBranchS.body ⟨start ir_laws_toBranchS args, M⟩ (Lv M.length ir_laws_toBranchS.results r)) : C f_laws_toBranchS args M = some r := call_of rfl rfl h
theorem C_spec_l1In {args : List PV} {M : List Blk} {r : PV × List Blk} (h : W C M.length ir_spec_l1In.body ⟨start ir_spec_l1In args, M⟩ (Lv M.length ir_spec_l1In.results r)) : C f_spec_l1In args M = some r := call_of rfl rfl h
theorem C_spec_l11Good {args : List PV} {M : List Blk} {r : PV × List Blk} (h : W C M.length ir_spec_l11Good.body ⟨start ir_spec_l11Good args, M⟩ (Lv M.length ir_spec_l11Good.results r)) : C f_spec_l11Good args M = some r := call_of rfl rfl h
theorem C_spec_l11First {args : List PV} {M : List Blk} {r : PV × List Blk} (h : W C M.length ir_spec_l11First.body ⟨start ir_spec_l11First args, M⟩ (Lv M.length ir_spec_l11First.results r)) : C f_spec_l11First args M = some r := call_of rfl rfl h
theorem C_spec_l1Least {args : List PV} {M : List Blk} {r : PV × List Blk} (h : W C M.length ir_spec_l1Least.body ⟨start ir_spec_l1Least args, M⟩ (Lv M.length ir_spec_l1Least.results r)) : C f_spec_l1Least args M = some r := call_of rfl rfl h
theorem C_spec_l11Short {args : List PV} {M : List Blk} {r : PV × List Blk} (h : W C M.length ir_spec_l11Short.body ⟨start ir_spec_l11Short args, M⟩ (Lv M.length ir_spec_l11Short.results r)) : C f_spec_l11Short args M = some r := call_of rfl rfl h
theorem C_spec_ShortestOf {args : List PV} {M : List Blk} {r : PV × List Blk} (h : W C M.length ir_spec_ShortestOf.body ⟨start ir_spec_ShortestOf args, M⟩ (Lv M.length ir_spec_ShortestOf.results r)) : C f_spec_ShortestOf args M = some r := call_of rfl rfl h
theorem C_impl_within {args : List PV} {M : List Blk} {r : PV × List Blk} (h : W C M.length ir_impl_within.body ⟨start ir_impl_within args, M⟩ (Lv M.length ir_impl_within.results r)) : C f_impl_within args M = some r := call_of rfl rfl h
theorem C_impl_isTree {args : List PV} {M : List Blk} {r : PV × List Blk} (h : W C M.length ir_impl_isTree.body ⟨start ir_impl_isTree args, M⟩ (Lv M.length ir_impl_isTree.results r)) : C f_impl_isTree args M = some r := call_of rfl rfl h
theorem C_impl_ShortestOf {args : List PV} {M : List Blk} {r : PV × List Blk} (h : W C M.length ir_impl_ShortestOf.body ⟨start ir_impl_ShortestOf args, M⟩ (Lv M.length ir_impl_ShortestOf.results r)) : C f_impl_ShortestOf args M = some r := call_of rfl rfl h
theorem C_laws_eqBranch {args : List PV} {M : List Blk} {r : PV × List Blk} (h : W C M.length ir_laws_eqBranch.body ⟨start ir_laws_eqBranch args, M⟩ (Lv M.length ir_laws_eqBranch.results r)) : C f_laws_eqBranch args M = some r := call_of rfl rfl h
theorem C_laws_eqBranchS {args : List PV} {M : List Blk} {r : PV × List Blk} (h : W C M.length ir_laws_eqBranchS.body ⟨start ir_laws_eqBranchS args, M⟩ (Lv M.length ir_laws_eqBranchS.results r)) : C f_laws_eqBranchS args M = some r := call_of rfl rfl h
theorem C_laws_FnExactShortestOf {args : List PV} {M : List Blk} {r : PV × List Blk} (h : W C M.length ir_laws_FnExactShortestOf.body ⟨start ir_laws_FnExactShortestOf args, M⟩ (Lv M.length ir_laws_FnExactShortestOf.results r)) : C f_laws_FnExactShortestOf args M = some r := call_of rfl rfl h
end Go.Proofs.Ytoimodnlefadhaa.Pi
