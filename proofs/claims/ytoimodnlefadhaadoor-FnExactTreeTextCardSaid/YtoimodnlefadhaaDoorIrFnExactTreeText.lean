/- The forms of the functions that the law reaches, and their oracle. Definitions alone; no condition. -/
import Derived.Test.YtoimodnlefadhaaDoorPiExt
namespace Go.Proofs.YtoimodnlefadhaaDoor.Pi
open Go
set_option linter.all false
abbrev t_int : TypeId := 3
abbrev t_uint8 : TypeId := 5
abbrev t_impl_Branch : TypeId := 39
abbrev t_laws_Branch : TypeId := 41
abbrev t_impl_treeNode : TypeId := 57
abbrev f_laws_szBranchS : FuncId := 5
abbrev f_laws_toBranch : FuncId := 16
abbrev f_laws_toBranchS : FuncId := 7
abbrev f_spec_l1In : FuncId := 25
abbrev f_spec_l11Good : FuncId := 14
abbrev f_spec_l1Num : FuncId := 26
abbrev f_spec_l11First : FuncId := 27
abbrev f_spec_l11Text : FuncId := 15
abbrev f_spec_TreeText : FuncId := 6
abbrev f_impl_within : FuncId := 28
abbrev f_impl_isTree : FuncId := 17
abbrev f_impl_parsed : FuncId := 19
abbrev f_internal_strconv_small : FuncId := 44
abbrev f_math_bits_Len64 : FuncId := 49
abbrev f_internal_strconv_log10Pow2 : FuncId := 48
abbrev f_internal_strconv_bool2_int : FuncId := 50
abbrev f_internal_strconv_numDigits : FuncId := 45
abbrev f_internal_strconv_formatBase10 : FuncId := 46
abbrev f_internal_strconv_isPowerOfTwo : FuncId := 51
abbrev f_math_bits_TrailingZeros32 : FuncId := 42
abbrev f_math_bits_TrailingZeros64 : FuncId := 43
abbrev f_math_bits_TrailingZeros : FuncId := 36
abbrev f_internal_strconv_formatBits : FuncId := 47
abbrev f_internal_strconv_FormatInt : FuncId := 41
abbrev f_internal_strconv_Itoa : FuncId := 35
abbrev f_strconv_Itoa : FuncId := 29
abbrev f_impl_treeText : FuncId := 18
abbrev f_impl_TreeText : FuncId := 8
abbrev f_laws_eqBranch : FuncId := 20
abbrev f_laws_eqBranchS : FuncId := 9
abbrev f_laws_FnExactTreeText : FuncId := 3
def ir_laws_szBranchS : IFun := ⟨[0, 1, 4, 10],
  (.seq (.region false [] [⟨some 2, .mov (.c (.int .i64 0)), none⟩])
  (.seq (.region false [] [⟨none, .mov (.v 1), none⟩, ⟨none, .mov (.v 0), none⟩, ⟨none, .len false (.r 1), none⟩, ⟨none, .bin false .sub (.r 0) (.r 2), none⟩, ⟨some 1, .mov (.r 3), none⟩])
  (.seq (.seq (.region false [] [⟨none, .mov (.v 1), none⟩, ⟨some 3, .bin false .lss (.r 0) (.c (.int .i64 0)), none⟩])
  (.cond (.v 3) (.seq (.region false [] [⟨some 2, .mov (.c (.int .i64 (-1))), none⟩])
  .ret) .skip))
  (.seq (.region false [] [⟨none, .mov (.v 1), none⟩, ⟨some 2, .mov (.r 0), none⟩])
  .ret)))),
  [.v 2]⟩
def ir_laws_toBranch : IFun := ⟨[0, 1, 2, 3],
  (.seq (.region false [] [⟨some 1, .box t_laws_Branch 2 (.v 0), none⟩, ⟨some 2, .alloc t_impl_Branch [(.int .i64 0), (.int .i64 0)], none⟩])
  (.seq (.region false [] [⟨some 3, .alloc t_impl_Branch [(.int .i64 0), (.int .i64 0)], none⟩])
  (.seq (.region false [] [⟨none, .faddr 0 (.v 1), none⟩, ⟨none, .load false 1 (.r 0), none⟩, ⟨none, .faddr 0 (.v 3), none⟩, ⟨none, .store 1 (.r 2) (.r 1), none⟩])
  (.seq (.region false [] [⟨none, .faddr 1 (.v 1), none⟩, ⟨none, .load false 1 (.r 0), none⟩, ⟨none, .faddr 1 (.v 3), none⟩, ⟨none, .store 1 (.r 2) (.r 1), none⟩])
  (.seq (.region false [] [⟨none, .load true 2 (.v 3), none⟩, ⟨none, .store 2 (.v 2) (.r 0), none⟩])
  .ret))))),
  [.cell true 2 2]⟩
def ir_laws_toBranchS : IFun := ⟨[0, 2, 3, 4, 11],
  (.seq (.region false [] [⟨some 1, .nilrow t_impl_Branch true 2, none⟩])
  (.seq (.region false [] [⟨none, .mov (.v 0), none⟩, ⟨none, .len false (.r 0), none⟩, ⟨none, .mk t_impl_Branch true 2 (.agg [(.int .i64 0), (.int .i64 0)]) (.r 1), none⟩, ⟨some 2, .mov (.r 2), none⟩])
  (.seq (.seq (.region false [] [⟨some 3, .mov (.c (.int .i64 0)), none⟩])
  (.block 0 (.loop [true, false, true, true, false] (.seq (.seq (.region false [] [⟨none, .mov (.v 3), none⟩, ⟨none, .mov (.v 0), none⟩, ⟨none, .len false (.r 1), none⟩, ⟨some 4, .bin false .lss (.r 0) (.r 2), none⟩])
  (.cond (.v 4) .skip (.exit 0)))
  (.seq (.block 1 (.region false [] [⟨none, .mov (.v 2), none⟩, ⟨none, .mov (.v 3), none⟩, ⟨none, .mov (.v 0), none⟩, ⟨none, .mov (.v 3), none⟩, ⟨none, .iaddr 2 (.r 2) (.r 3), none⟩, ⟨none, .load true 2 (.r 4), none⟩, ⟨none, .call false f_laws_toBranch [(.r 5)], none⟩, ⟨none, .iaddr 2 (.r 0) (.r 1), none⟩, ⟨none, .store 2 (.r 7) (.r 6), none⟩]))
  (.region false [] [⟨none, .mov (.v 3), none⟩, ⟨none, .bin false .add (.r 0) (.c (.int .i64 1)), none⟩, ⟨some 3, .mov (.r 1), none⟩]))))))
  (.seq (.region false [] [⟨none, .mov (.v 2), none⟩, ⟨some 1, .mov (.r 0), none⟩])
  .ret)))),
  [.v 1]⟩
def ir_spec_l1In : IFun := ⟨[0, 1, 2, 6],
  (.seq (.region false [] [⟨some 3, .mov (.c (.bool false)), none⟩])
  (.seq (.region false [] [⟨none, .mov (.v 0), none⟩, ⟨none, .mov (.v 1), none⟩, ⟨none, .bin false .geq (.r 0) (.r 1), none⟩, ⟨none, .mov (.r 2), none⟩, ⟨none, .mov (.v 0), some (3, true)⟩, ⟨none, .mov (.v 2), some (3, true)⟩, ⟨none, .bin false .leq (.r 4) (.r 5), some (3, true)⟩, ⟨none, .pick (.r 3) (.r 6) (.c (.bool false)), none⟩, ⟨some 3, .mov (.r 7), none⟩])
  .ret)),
  [.v 3]⟩
def ir_spec_l11Good : IFun := ⟨[0, 2, 3, 5, 9, 10, 11, 12, 13, 16, 27],
  (.seq (.region false [] [⟨some 1, .mov (.c (.bool false)), none⟩])
  (.seq (.seq (.region false [] [⟨none, .mov (.v 0), none⟩, ⟨none, .len false (.r 0), none⟩, ⟨none, .call false f_spec_l1In [(.r 1), (.c (.int .i64 1)), (.c (.int .i64 15))], none⟩, ⟨some 4, .not (.r 2), none⟩])
  (.cond (.v 4) (.seq (.region false [] [⟨some 1, .mov (.c (.bool false)), none⟩])
  .ret) .skip))
  (.seq (.region false [] [⟨some 2, .mov (.c (.int .i64 0)), none⟩])
  (.seq (.seq (.region false [] [⟨some 5, .mov (.v 0), none⟩, ⟨some 6, .len false (.v 5), none⟩, ⟨some 7, .mov (.c (.int .i64 0)), none⟩])
  (.block 0 (.loop [false, false, true, false, false, true, true, true, false, false, false] (.seq (.region false [] [⟨some 8, .bin false .lss (.v 7) (.v 6), none⟩])
  (.seq (.cond (.v 8) .skip (.exit 0))
  (.seq (.block 1 (.seq (.region false [] [⟨none, .iaddr 2 (.v 5) (.v 7), none⟩, ⟨none, .load true 2 (.r 0), none⟩, ⟨some 3, .alloc t_impl_Branch [(.int .i64 0), (.int .i64 0)], none⟩, ⟨none, .store 2 (.v 3) (.r 1), none⟩])
  (.block 2 (.seq (.region false [] [⟨none, .faddr 0 (.v 3), none⟩, ⟨none, .load false 1 (.r 0), none⟩, ⟨none, .bin false .eql (.r 1) (.c (.int .i64 1)), none⟩, ⟨none, .mov (.r 2), none⟩, ⟨none, .faddr 1 (.v 3), some (3, true)⟩, ⟨none, .load false 1 (.r 4), some (3, true)⟩, ⟨none, .call false f_spec_l1In [(.r 5), (.c (.int .i64 1)), (.c (.int .i64 9))], some (3, true)⟩, ⟨none, .pick (.r 3) (.r 6) (.c (.bool false)), none⟩, ⟨some 9, .mov (.r 7), none⟩])
  (.cond (.v 9) (.region false [] [⟨none, .mov (.v 2), none⟩, ⟨none, .bin false .add (.r 0) (.c (.int .i64 1)), none⟩, ⟨some 2, .mov (.r 1), none⟩]) (.seq (.region false [] [⟨none, .faddr 0 (.v 3), none⟩, ⟨none, .load false 1 (.r 0), none⟩, ⟨none, .call false f_spec_l1In [(.r 1), (.c (.int .i64 2)), (.c (.int .i64 5))], none⟩, ⟨none, .mov (.r 2), none⟩, ⟨none, .faddr 1 (.v 3), some (3, true)⟩, ⟨none, .load false 1 (.r 4), some (3, true)⟩, ⟨none, .bin false .eql (.r 5) (.c (.int .i64 0)), some (3, true)⟩, ⟨none, .pick (.r 3) (.r 6) (.c (.bool false)), none⟩, ⟨none, .mov (.r 7), none⟩, ⟨none, .mov (.v 2), some (8, true)⟩, ⟨none, .bin false .geq (.r 9) (.c (.int .i64 2)), some (8, true)⟩, ⟨none, .pick (.r 8) (.r 10) (.c (.bool false)), none⟩, ⟨some 10, .mov (.r 11), none⟩])
  (.cond (.v 10) (.region false [] [⟨none, .mov (.v 2), none⟩, ⟨none, .bin false .sub (.r 0) (.c (.int .i64 1)), none⟩, ⟨some 2, .mov (.r 1), none⟩]) (.seq (.region false [] [⟨some 1, .mov (.c (.bool false)), none⟩])
  .ret))))))))
  (.region false [] [⟨none, .bin false .add (.v 7) (.c (.int .i64 1)), none⟩, ⟨some 7, .mov (.r 0), none⟩])))))))
  (.seq (.region false [] [⟨none, .mov (.v 2), none⟩, ⟨none, .bin false .eql (.r 0) (.c (.int .i64 1)), none⟩, ⟨some 1, .mov (.r 1), none⟩])
  .ret))))),
  [.v 1]⟩
def ir_spec_l1Num : IFun := ⟨[0, 2, 4],
  (.seq (.region false [] [⟨some 1, .mov (.c (.str ⟨#[]⟩)), none⟩])
  (.seq (.seq (.region false [] [⟨none, .mov (.v 0), none⟩, ⟨some 2, .bin false .lss (.r 0) (.c (.int .i64 10)), none⟩])
  (.cond (.v 2) (.seq (.region false [] [⟨none, .mov (.v 0), none⟩, ⟨none, .bin false .add (.c (.int .i64 48)) (.r 0), none⟩, ⟨none, .conv .u8 (.r 1), none⟩, ⟨none, .bslice false t_uint8 true 1 [(.r 2)], none⟩, ⟨none, .strb (.r 3), none⟩, ⟨some 1, .mov (.r 4), none⟩])
  .ret) .skip))
  (.seq (.region true [] [⟨none, .mov (.v 0), none⟩, ⟨none, .bin false .quo (.r 0) (.c (.int .i64 10)), none⟩, ⟨none, .call true f_spec_l1Num [(.r 1)], none⟩, ⟨none, .mov (.v 0), none⟩, ⟨none, .bin false .rem (.r 3) (.c (.int .i64 10)), none⟩, ⟨none, .bin false .add (.c (.int .i64 48)) (.r 4), none⟩, ⟨none, .conv .u8 (.r 5), none⟩, ⟨none, .bslice true t_uint8 true 1 [(.r 6)], none⟩, ⟨none, .strb (.r 7), none⟩, ⟨none, .bin false .add (.r 2) (.r 8), none⟩, ⟨some 1, .mov (.r 9), none⟩])
  .ret))),
  [.v 1]⟩
def ir_spec_l11First : IFun := ⟨[0, 1, 4, 5, 6, 10, 18],
  (.seq (.region false [] [⟨some 2, .mov (.c (.int .i64 0)), none⟩])
  (.seq (.region false [] [⟨some 3, .mov (.c (.int .i64 1)), none⟩])
  (.seq (.region false [] [⟨none, .mov (.v 1), none⟩, ⟨none, .bin false .sub (.r 0) (.c (.int .i64 1)), none⟩, ⟨some 4, .mov (.r 1), none⟩])
  (.seq (.block 0 (.loop [true, false, false, true, true, false, false] (.seq (.seq (.region false [] [⟨none, .mov (.v 3), none⟩, ⟨some 5, .bin false .gtr (.r 0) (.c (.int .i64 0)), none⟩])
  (.cond (.v 5) .skip (.exit 0)))
  (.block 1 (.seq (.region false [] [⟨none, .mov (.v 3), none⟩, ⟨none, .bin false .sub (.r 0) (.c (.int .i64 1)), none⟩, ⟨some 3, .mov (.r 1), none⟩])
  (.seq (.seq (.region false [] [⟨none, .mov (.v 0), none⟩, ⟨none, .mov (.v 4), none⟩, ⟨none, .iaddr 2 (.r 0) (.r 1), none⟩, ⟨none, .faddr 0 (.r 2), none⟩, ⟨none, .load false 1 (.r 3), none⟩, ⟨some 6, .bin false .neq (.r 4) (.c (.int .i64 1)), none⟩])
  (.cond (.v 6) (.region false [] [⟨none, .mov (.v 3), none⟩, ⟨none, .bin false .add (.r 0) (.c (.int .i64 2)), none⟩, ⟨some 3, .mov (.r 1), none⟩]) .skip))
  (.region false [] [⟨none, .mov (.v 4), none⟩, ⟨none, .bin false .sub (.r 0) (.c (.int .i64 1)), none⟩, ⟨some 4, .mov (.r 1), none⟩])))))))
  (.seq (.region false [] [⟨none, .mov (.v 4), none⟩, ⟨some 2, .mov (.r 0), none⟩])
  .ret))))),
  [.v 2]⟩
def ir_spec_l11Text : IFun := ⟨[0, 1, 4, 5, 12],
  (.seq (.region false [] [⟨some 2, .mov (.c (.str ⟨#[]⟩)), none⟩])
  (.seq (.region false [] [⟨none, .mov (.v 0), none⟩, ⟨none, .mov (.v 1), none⟩, ⟨none, .iaddr 2 (.r 0) (.r 1), none⟩, ⟨none, .load true 2 (.r 2), none⟩, ⟨some 3, .alloc t_impl_Branch [(.int .i64 0), (.int .i64 0)], none⟩, ⟨none, .store 2 (.v 3) (.r 3), none⟩])
  (.seq (.seq (.region false [] [⟨none, .faddr 0 (.v 3), none⟩, ⟨none, .load false 1 (.r 0), none⟩, ⟨some 4, .bin false .eql (.r 1) (.c (.int .i64 1)), none⟩])
  (.cond (.v 4) (.seq (.region false [] [⟨none, .faddr 1 (.v 3), none⟩, ⟨none, .load false 1 (.r 0), none⟩, ⟨none, .call false f_spec_l1Num [(.r 1)], none⟩, ⟨some 2, .mov (.r 2), none⟩])
  .ret) .skip))
  (.seq (.region true [(14, 4), (14, 7), (15, 4), (15, 7), (18, 4), (18, 7)] [⟨none, .mov (.v 0), none⟩, ⟨none, .mov (.v 0), none⟩, ⟨none, .mov (.v 1), none⟩, ⟨none, .faddr 0 (.v 3), none⟩, ⟨none, .load false 1 (.r 3), none⟩, ⟨none, .bin false .sub (.r 4) (.c (.int .i64 2)), none⟩, ⟨none, .faddr 0 (.v 3), none⟩, ⟨none, .load false 1 (.r 6), none⟩, ⟨none, .bin false .sub (.r 7) (.c (.int .i64 2)), none⟩, ⟨none, .bin false .add (.r 8) (.c (.int .i64 1)), none⟩, ⟨none, .sub (.c (.str ⟨#[59, 124, 38, 42]⟩)) (some (.r 5)) (some (.r 9)), none⟩, ⟨none, .mov (.v 0), none⟩, ⟨none, .mov (.v 1), none⟩, ⟨none, .bin false .sub (.r 12) (.c (.int .i64 1)), none⟩, ⟨none, .call false f_spec_l11First [(.r 1), (.r 2)], none⟩, ⟨none, .call false f_spec_l11Text [(.r 0), (.r 14)], none⟩, ⟨none, .bin false .add (.c (.str ⟨#[40]⟩)) (.r 15), none⟩, ⟨none, .bin false .add (.r 16) (.r 10), none⟩, ⟨none, .call false f_spec_l11Text [(.r 11), (.r 13)], none⟩, ⟨none, .bin false .add (.r 17) (.r 18), none⟩, ⟨none, .bin false .add (.r 19) (.c (.str ⟨#[41]⟩)), none⟩, ⟨some 2, .mov (.r 20), none⟩])
  .ret)))),
  [.v 2]⟩
def ir_spec_TreeText : IFun := ⟨[0, 2, 3, 6],
  (.seq (.region false [] [⟨some 1, .mov (.c (.str ⟨#[]⟩)), none⟩, ⟨some 2, .mov (.c (.bool false)), none⟩])
  (.seq (.seq (.region false [] [⟨none, .mov (.v 0), none⟩, ⟨none, .call false f_spec_l11Good [(.r 0)], none⟩, ⟨some 3, .not (.r 1), none⟩])
  (.cond (.v 3) (.seq (.region false [] [⟨some 1, .mov (.c (.str ⟨#[]⟩)), none⟩, ⟨some 2, .mov (.c (.bool false)), none⟩])
  .ret) .skip))
  (.seq (.region false [] [⟨none, .mov (.v 0), none⟩, ⟨none, .mov (.v 0), none⟩, ⟨none, .len false (.r 1), none⟩, ⟨none, .bin false .sub (.r 2) (.c (.int .i64 1)), none⟩, ⟨none, .call false f_spec_l11Text [(.r 0), (.r 3)], none⟩, ⟨some 1, .mov (.r 4), none⟩, ⟨some 2, .mov (.c (.bool true)), none⟩])
  .ret))),
  [.v 1, .v 2]⟩
def ir_impl_within : IFun := ⟨[0, 1, 2, 6],
  (.seq (.region false [] [⟨some 3, .mov (.c (.bool false)), none⟩])
  (.seq (.region false [] [⟨none, .mov (.v 0), none⟩, ⟨none, .mov (.v 1), none⟩, ⟨none, .bin false .geq (.r 0) (.r 1), none⟩, ⟨none, .mov (.r 2), none⟩, ⟨none, .mov (.v 0), some (3, true)⟩, ⟨none, .mov (.v 2), some (3, true)⟩, ⟨none, .bin false .leq (.r 4) (.r 5), some (3, true)⟩, ⟨none, .pick (.r 3) (.r 6) (.c (.bool false)), none⟩, ⟨some 3, .mov (.r 7), none⟩])
  .ret)),
  [.v 3]⟩
def ir_impl_isTree : IFun := ⟨[0, 2, 3, 5, 6, 7, 8, 9, 12, 23],
  (.seq (.region false [] [⟨some 1, .mov (.c (.bool false)), none⟩])
  (.seq (.region false [] [⟨some 2, .mov (.c (.int .i64 0)), none⟩])
  (.seq (.seq (.region false [] [⟨some 4, .mov (.v 0), none⟩, ⟨some 5, .len false (.v 4), none⟩, ⟨some 6, .mov (.c (.int .i64 0)), none⟩])
  (.block 0 (.loop [true, false, true, false, true, true, true, false, false, false] (.seq (.region false [] [⟨some 7, .bin false .lss (.v 6) (.v 5), none⟩])
  (.seq (.cond (.v 7) .skip (.exit 0))
  (.seq (.block 1 (.seq (.region false [] [⟨none, .iaddr 2 (.v 4) (.v 6), none⟩, ⟨none, .load true 2 (.r 0), none⟩, ⟨some 3, .alloc t_impl_Branch [(.int .i64 0), (.int .i64 0)], none⟩, ⟨none, .store 2 (.v 3) (.r 1), none⟩])
  (.block 2 (.seq (.region false [] [⟨none, .faddr 0 (.v 3), none⟩, ⟨none, .load false 1 (.r 0), none⟩, ⟨none, .bin false .eql (.r 1) (.c (.int .i64 1)), none⟩, ⟨none, .mov (.r 2), none⟩, ⟨none, .faddr 1 (.v 3), some (3, true)⟩, ⟨none, .load false 1 (.r 4), some (3, true)⟩, ⟨none, .call false f_impl_within [(.r 5), (.c (.int .i64 1)), (.c (.int .i64 9))], some (3, true)⟩, ⟨none, .pick (.r 3) (.r 6) (.c (.bool false)), none⟩, ⟨some 8, .mov (.r 7), none⟩])
  (.cond (.v 8) (.region false [] [⟨none, .mov (.v 2), none⟩, ⟨none, .bin false .add (.r 0) (.c (.int .i64 1)), none⟩, ⟨some 2, .mov (.r 1), none⟩]) (.seq (.region false [] [⟨none, .faddr 0 (.v 3), none⟩, ⟨none, .load false 1 (.r 0), none⟩, ⟨none, .call false f_impl_within [(.r 1), (.c (.int .i64 2)), (.c (.int .i64 5))], none⟩, ⟨none, .mov (.r 2), none⟩, ⟨none, .faddr 1 (.v 3), some (3, true)⟩, ⟨none, .load false 1 (.r 4), some (3, true)⟩, ⟨none, .bin false .eql (.r 5) (.c (.int .i64 0)), some (3, true)⟩, ⟨none, .pick (.r 3) (.r 6) (.c (.bool false)), none⟩, ⟨none, .mov (.r 7), none⟩, ⟨none, .mov (.v 2), some (8, true)⟩, ⟨none, .bin false .gtr (.r 9) (.c (.int .i64 1)), some (8, true)⟩, ⟨none, .pick (.r 8) (.r 10) (.c (.bool false)), none⟩, ⟨some 9, .mov (.r 11), none⟩])
  (.cond (.v 9) (.region false [] [⟨none, .mov (.v 2), none⟩, ⟨none, .bin false .sub (.r 0) (.c (.int .i64 1)), none⟩, ⟨some 2, .mov (.r 1), none⟩]) (.seq (.region false [] [⟨some 1, .mov (.c (.bool false)), none⟩])
  .ret))))))))
  (.region false [] [⟨none, .bin false .add (.v 6) (.c (.int .i64 1)), none⟩, ⟨some 6, .mov (.r 0), none⟩])))))))
  (.seq (.region false [] [⟨none, .mov (.v 2), none⟩, ⟨none, .bin false .eql (.r 0) (.c (.int .i64 1)), none⟩, ⟨none, .mov (.r 1), none⟩, ⟨none, .mov (.v 0), some (2, true)⟩, ⟨none, .len false (.r 3), some (2, true)⟩, ⟨none, .bin false .leq (.r 4) (.c (.int .i64 15)), some (2, true)⟩, ⟨none, .pick (.r 2) (.r 5) (.c (.bool false)), none⟩, ⟨some 1, .mov (.r 6), none⟩])
  .ret)))),
  [.v 1]⟩
def ir_impl_parsed : IFun := ⟨[0, 2, 3, 4, 5, 6, 7, 11, 12, 13, 14, 27],
  (.seq (.region false [] [⟨some 1, .nilrow t_impl_treeNode true 4, none⟩])
  (.seq (.region false [] [⟨none, .mov (.v 0), none⟩, ⟨none, .len false (.r 0), none⟩, ⟨none, .mk t_impl_treeNode true 4 (.agg [(.int .i64 0), (.int .i64 0), (.int .i64 0), (.int .i64 0)]) (.r 1), none⟩, ⟨some 2, .mov (.r 2), none⟩])
  (.seq (.region false [] [⟨some 3, .nilrow t_int true 1, none⟩])
  (.seq (.seq (.region false [] [⟨some 7, .mov (.v 0), none⟩, ⟨some 8, .len false (.v 7), none⟩, ⟨some 9, .mov (.c (.int .i64 0)), none⟩])
  (.block 0 (.loop [false, false, true, true, false, false, false, true, true, true, false, false] (.seq (.region false [] [⟨some 10, .bin false .lss (.v 9) (.v 8), none⟩])
  (.seq (.cond (.v 10) .skip (.exit 0))
  (.seq (.block 1 (.seq (.region false [] [⟨none, .mov (.v 9), none⟩, ⟨none, .iaddr 2 (.v 7) (.v 9), none⟩, ⟨none, .load true 2 (.r 1), none⟩, ⟨some 5, .alloc t_impl_Branch [(.int .i64 0), (.int .i64 0)], none⟩, ⟨some 4, .mov (.r 0), none⟩, ⟨none, .store 2 (.v 5) (.r 2), none⟩])
  (.seq (.region false [] [⟨none, .mov (.v 2), none⟩, ⟨none, .mov (.v 4), none⟩, ⟨none, .load true 2 (.v 5), none⟩, ⟨none, .iaddr 4 (.r 0) (.r 1), none⟩, ⟨none, .faddr 0 (.r 3), none⟩, ⟨none, .store 2 (.r 4) (.r 2), none⟩])
  (.seq (.seq (.region false [] [⟨none, .mov (.v 3), none⟩, ⟨none, .len false (.r 0), none⟩, ⟨some 6, .mov (.r 1), none⟩])
  (.seq (.region false [] [⟨none, .faddr 0 (.v 5), none⟩, ⟨none, .load false 1 (.r 0), none⟩, ⟨some 11, .bin false .neq (.r 1) (.c (.int .i64 1)), none⟩])
  (.cond (.v 11) (.seq (.region true [] [⟨none, .mov (.v 2), none⟩, ⟨none, .mov (.v 4), none⟩, ⟨none, .mov (.v 2), none⟩, ⟨none, .mov (.v 4), none⟩, ⟨none, .mov (.v 3), none⟩, ⟨none, .mov (.v 6), none⟩, ⟨none, .bin false .sub (.r 5) (.c (.int .i64 2)), none⟩, ⟨none, .iaddr 1 (.r 4) (.r 6), none⟩, ⟨none, .load false 1 (.r 7), none⟩, ⟨none, .mov (.v 3), none⟩, ⟨none, .mov (.v 6), none⟩, ⟨none, .bin false .sub (.r 10) (.c (.int .i64 1)), none⟩, ⟨none, .iaddr 1 (.r 9) (.r 11), none⟩, ⟨none, .load false 1 (.r 12), none⟩, ⟨none, .iaddr 4 (.r 0) (.r 1), none⟩, ⟨none, .faddr 2 (.r 14), none⟩, ⟨none, .store 1 (.r 15) (.r 8), none⟩, ⟨none, .iaddr 4 (.r 2) (.r 3), none⟩, ⟨none, .faddr 3 (.r 17), none⟩, ⟨none, .store 1 (.r 18) (.r 13), none⟩])
  (.region false [] [⟨none, .mov (.v 3), none⟩, ⟨none, .mov (.v 6), none⟩, ⟨none, .bin false .sub (.r 1) (.c (.int .i64 2)), none⟩, ⟨none, .slice 1 (.r 0) none (some (.r 2)), none⟩, ⟨some 3, .mov (.r 3), none⟩])) .skip)))
  (.region false [] [⟨none, .mov (.v 3), none⟩, ⟨none, .mov (.v 4), none⟩, ⟨none, .bslice false t_int true 1 [(.r 1)], none⟩, ⟨none, .append t_int true 1 (.r 0) (.r 2), none⟩, ⟨some 3, .mov (.r 3), none⟩])))))
  (.region false [] [⟨none, .bin false .add (.v 9) (.c (.int .i64 1)), none⟩, ⟨some 9, .mov (.r 0), none⟩])))))))
  (.seq (.region false [] [⟨none, .mov (.v 2), none⟩, ⟨some 1, .mov (.r 0), none⟩])
  .ret))))),
  [.v 1]⟩
def ir_internal_strconv_small : IFun := ⟨[0, 2, 4],
  (.seq (.region false [] [⟨some 1, .mov (.c (.str ⟨#[]⟩)), none⟩])
  (.seq (.seq (.region false [] [⟨none, .mov (.v 0), none⟩, ⟨some 2, .bin false .lss (.r 0) (.c (.int .i64 10)), none⟩])
  (.cond (.v 2) (.seq (.region false [] [⟨none, .mov (.v 0), none⟩, ⟨none, .mov (.v 0), none⟩, ⟨none, .bin false .add (.r 1) (.c (.int .i64 1)), none⟩, ⟨none, .sub (.c (.str ⟨#[48, 49, 50, 51, 52, 53, 54, 55, 56, 57, 97, 98, 99, 100, 101, 102, 103, 104, 105, 106, 107, 108, 109, 110, 111, 112, 113, 114, 115, 116, 117, 118, 119, 120, 121, 122]⟩)) (some (.r 0)) (some (.r 2)), none⟩, ⟨some 1, .mov (.r 3), none⟩])
  .ret) .skip))
  (.seq (.region false [] [⟨none, .mov (.v 0), none⟩, ⟨none, .bin false .mul (.r 0) (.c (.int .i64 2)), none⟩, ⟨none, .mov (.v 0), none⟩, ⟨none, .bin false .mul (.r 2) (.c (.int .i64 2)), none⟩, ⟨none, .bin false .add (.r 3) (.c (.int .i64 2)), none⟩, ⟨none, .sub (.c (.str ⟨#[48, 48, 48, 49, 48, 50, 48, 51, 48, 52, 48, 53, 48, 54, 48, 55, 48, 56, 48, 57, 49, 48, 49, 49, 49, 50, 49, 51, 49, 52, 49, 53, 49, 54, 49, 55, 49, 56, 49, 57, 50, 48, 50, 49, 50, 50, 50, 51, 50, 52, 50, 53, 50, 54, 50, 55, 50, 56, 50, 57, 51, 48, 51, 49, 51, 50, 51, 51, 51, 52, 51, 53, 51, 54, 51, 55, 51, 56, 51, 57, 52, 48, 52, 49, 52, 50, 52, 51, 52, 52, 52, 53, 52, 54, 52, 55, 52, 56, 52, 57, 53, 48, 53, 49, 53, 50, 53, 51, 53, 52, 53, 53, 53, 54, 53, 55, 53, 56, 53, 57, 54, 48, 54, 49, 54, 50, 54, 51, 54, 52, 54, 53, 54, 54, 54, 55, 54, 56, 54, 57, 55, 48, 55, 49, 55, 50, 55, 51, 55, 52, 55, 53, 55, 54, 55, 55, 55, 56, 55, 57, 56, 48, 56, 49, 56, 50, 56, 51, 56, 52, 56, 53, 56, 54, 56, 55, 56, 56, 56, 57, 57, 48, 57, 49, 57, 50, 57, 51, 57, 52, 57, 53, 57, 54, 57, 55, 57, 56, 57, 57]⟩)) (some (.r 1)) (some (.r 4)), none⟩, ⟨some 1, .mov (.r 5), none⟩])
  .ret))),
  [.v 1]⟩
def ir_math_bits_Len64 : IFun := ⟨[0, 2, 4, 8, 14],
  (.seq (.region false [] [⟨some 1, .mov (.c (.int .i64 0)), none⟩])
  (.seq (.seq (.region false [] [⟨none, .mov (.v 0), none⟩, ⟨some 2, .bin false .geq (.r 0) (.c (.int .u64 4294967296)), none⟩])
  (.cond (.v 2) (.seq (.region false [] [⟨none, .mov (.v 0), none⟩, ⟨none, .bin false .shr (.r 0) (.c (.int .u64 32)), none⟩, ⟨some 0, .mov (.r 1), none⟩])
  (.region false [] [⟨some 1, .mov (.c (.int .i64 32)), none⟩])) .skip))
  (.seq (.seq (.region false [] [⟨none, .mov (.v 0), none⟩, ⟨some 3, .bin false .geq (.r 0) (.c (.int .u64 65536)), none⟩])
  (.cond (.v 3) (.seq (.region false [] [⟨none, .mov (.v 0), none⟩, ⟨none, .bin false .shr (.r 0) (.c (.int .u64 16)), none⟩, ⟨some 0, .mov (.r 1), none⟩])
  (.region false [] [⟨none, .mov (.v 1), none⟩, ⟨none, .bin false .add (.r 0) (.c (.int .i64 16)), none⟩, ⟨some 1, .mov (.r 1), none⟩])) .skip))
  (.seq (.seq (.region false [] [⟨none, .mov (.v 0), none⟩, ⟨some 4, .bin false .geq (.r 0) (.c (.int .u64 256)), none⟩])
  (.cond (.v 4) (.seq (.region false [] [⟨none, .mov (.v 0), none⟩, ⟨none, .bin false .shr (.r 0) (.c (.int .u64 8)), none⟩, ⟨some 0, .mov (.r 1), none⟩])
  (.region false [] [⟨none, .mov (.v 1), none⟩, ⟨none, .bin false .add (.r 0) (.c (.int .i64 8)), none⟩, ⟨some 1, .mov (.r 1), none⟩])) .skip))
  (.seq (.region false [] [⟨none, .mov (.v 1), none⟩, ⟨none, .mov (.v 0), none⟩, ⟨none, .conv .u8 (.r 1), none⟩, ⟨none, .stri (.c (.str ⟨#[0, 1, 2, 2, 3, 3, 3, 3, 4, 4, 4, 4, 4, 4, 4, 4, 5, 5, 5, 5, 5, 5, 5, 5, 5, 5, 5, 5, 5, 5, 5, 5, 6, 6, 6, 6, 6, 6, 6, 6, 6, 6, 6, 6, 6, 6, 6, 6, 6, 6, 6, 6, 6, 6, 6, 6, 6, 6, 6, 6, 6, 6, 6, 6, 7, 7, 7, 7, 7, 7, 7, 7, 7, 7, 7, 7, 7, 7, 7, 7, 7, 7, 7, 7, 7, 7, 7, 7, 7, 7, 7, 7, 7, 7, 7, 7, 7, 7, 7, 7, 7, 7, 7, 7, 7, 7, 7, 7, 7, 7, 7, 7, 7, 7, 7, 7, 7, 7, 7, 7, 7, 7, 7, 7, 7, 7, 7, 7, 8, 8, 8, 8, 8, 8, 8, 8, 8, 8, 8, 8, 8, 8, 8, 8, 8, 8, 8, 8, 8, 8, 8, 8, 8, 8, 8, 8, 8, 8, 8, 8, 8, 8, 8, 8, 8, 8, 8, 8, 8, 8, 8, 8, 8, 8, 8, 8, 8, 8, 8, 8, 8, 8, 8, 8, 8, 8, 8, 8, 8, 8, 8, 8, 8, 8, 8, 8, 8, 8, 8, 8, 8, 8, 8, 8, 8, 8, 8, 8, 8, 8, 8, 8, 8, 8, 8, 8, 8, 8, 8, 8, 8, 8, 8, 8, 8, 8, 8, 8, 8, 8, 8, 8, 8, 8, 8, 8, 8, 8, 8, 8, 8, 8, 8, 8, 8, 8, 8, 8, 8, 8, 8, 8, 8, 8, 8, 8]⟩)) (.r 2), none⟩, ⟨none, .conv .i64 (.r 3), none⟩, ⟨none, .bin false .add (.r 0) (.r 4), none⟩, ⟨some 1, .mov (.r 5), none⟩])
  .ret))))),
  [.v 1]⟩
def ir_internal_strconv_log10Pow2 : IFun := ⟨[0, 2],
  (.seq (.region false [] [⟨some 1, .mov (.c (.int .i64 0)), none⟩])
  (.seq (.region false [] [⟨none, .mov (.v 0), none⟩, ⟨none, .bin false .mul (.r 0) (.c (.int .i64 78913)), none⟩, ⟨none, .bin false .shr (.r 1) (.c (.int .u64 18)), none⟩, ⟨some 1, .mov (.r 2), none⟩])
  .ret)),
  [.v 1]⟩
def ir_internal_strconv_bool2_int : IFun := ⟨[0, 2, 3],
  (.seq (.region false [] [⟨some 1, .mov (.c (.int .i64 0)), none⟩])
  (.seq (.seq (.region false [] [⟨some 2, .mov (.v 0), none⟩])
  (.cond (.v 2) (.seq (.region false [] [⟨some 1, .mov (.c (.int .i64 1)), none⟩])
  .ret) .skip))
  (.seq (.region false [] [⟨some 1, .mov (.c (.int .i64 0)), none⟩])
  .ret))),
  [.v 1]⟩
def ir_internal_strconv_numDigits : IFun := ⟨[0, 2, 3],
  (.seq (.region false [] [⟨some 1, .mov (.c (.int .i64 0)), none⟩])
  (.seq (.region false [] [⟨none, .mov (.v 0), none⟩, ⟨none, .call false f_math_bits_Len64 [(.r 0)], none⟩, ⟨none, .call false f_internal_strconv_log10Pow2 [(.r 1)], none⟩, ⟨some 2, .mov (.r 2), none⟩])
  (.seq (.region false [] [⟨none, .mov (.v 2), none⟩, ⟨none, .mov (.v 0), none⟩, ⟨none, .mov (.v 2), none⟩, ⟨none, .bad, none⟩, ⟨none, .load false 1 (.r 3), none⟩, ⟨none, .bin false .geq (.r 1) (.r 4), none⟩, ⟨none, .call false f_internal_strconv_bool2_int [(.r 5)], none⟩, ⟨none, .bin false .add (.r 0) (.r 6), none⟩, ⟨some 1, .mov (.r 7), none⟩])
  .ret))),
  [.v 1]⟩
def ir_internal_strconv_formatBase10 : IFun := ⟨[0, 1, 4, 5, 6, 7, 8, 9, 10, 11, 12, 13, 14, 15, 16, 20, 99, 139, 161],
  (.seq (.region false [] [⟨none, .mov (.v 0), none⟩, ⟨none, .len false (.r 0), none⟩, ⟨some 2, .mov (.r 1), none⟩])
  (.seq (.block 0 (.loop [true, true, true, false, false, false, false, false, false, false, false, false, false, false, false, false, false, false, false] (.seq (.seq (.region false [] [⟨none, .mov (.v 2), none⟩, ⟨some 15, .bin false .geq (.r 0) (.c (.int .i64 8)), none⟩])
  (.cond (.v 15) .skip (.exit 0)))
  (.block 1 (.seq (.region false [] [⟨none, .mov (.v 1), none⟩, ⟨none, .bin false .rem (.r 0) (.c (.int .u64 100000000)), none⟩, ⟨none, .conv .u32 (.r 1), none⟩, ⟨some 3, .mov (.r 2), none⟩])
  (.seq (.region false [] [⟨none, .mov (.v 1), none⟩, ⟨none, .bin false .quo (.r 0) (.c (.int .u64 100000000)), none⟩, ⟨some 1, .mov (.r 1), none⟩])
  (.seq (.region false [] [⟨none, .mov (.v 3), none⟩, ⟨none, .bin false .quo (.r 0) (.c (.int .u32 10000)), none⟩, ⟨none, .mov (.v 3), none⟩, ⟨none, .bin false .rem (.r 2) (.c (.int .u32 10000)), none⟩, ⟨some 4, .mov (.r 1), none⟩, ⟨some 5, .mov (.r 3), none⟩])
  (.seq (.region false [] [⟨none, .mov (.v 5), none⟩, ⟨none, .bin false .quo (.r 0) (.c (.int .u32 100)), none⟩, ⟨none, .bin false .mul (.r 1) (.c (.int .u32 2)), none⟩, ⟨none, .mov (.v 5), none⟩, ⟨none, .bin false .rem (.r 3) (.c (.int .u32 100)), none⟩, ⟨none, .bin false .mul (.r 4) (.c (.int .u32 2)), none⟩, ⟨some 6, .mov (.r 2), none⟩, ⟨some 7, .mov (.r 5), none⟩])
  (.seq (.region false [] [⟨none, .mov (.v 4), none⟩, ⟨none, .bin false .quo (.r 0) (.c (.int .u32 100)), none⟩, ⟨none, .bin false .mul (.r 1) (.c (.int .u32 2)), none⟩, ⟨none, .mov (.v 4), none⟩, ⟨none, .bin false .rem (.r 3) (.c (.int .u32 100)), none⟩, ⟨none, .bin false .mul (.r 4) (.c (.int .u32 2)), none⟩, ⟨some 8, .mov (.r 2), none⟩, ⟨some 9, .mov (.r 5), none⟩])
  (.seq (.region true [] [⟨none, .mov (.v 0), none⟩, ⟨none, .mov (.v 2), none⟩, ⟨none, .bin false .sub (.r 1) (.c (.int .i64 1)), none⟩, ⟨none, .mov (.v 0), none⟩, ⟨none, .mov (.v 2), none⟩, ⟨none, .bin false .sub (.r 4) (.c (.int .i64 2)), none⟩, ⟨none, .mov (.v 7), none⟩, ⟨none, .bin false .add (.r 6) (.c (.int .u32 1)), none⟩, ⟨none, .stri (.c (.str ⟨#[48, 48, 48, 49, 48, 50, 48, 51, 48, 52, 48, 53, 48, 54, 48, 55, 48, 56, 48, 57, 49, 48, 49, 49, 49, 50, 49, 51, 49, 52, 49, 53, 49, 54, 49, 55, 49, 56, 49, 57, 50, 48, 50, 49, 50, 50, 50, 51, 50, 52, 50, 53, 50, 54, 50, 55, 50, 56, 50, 57, 51, 48, 51, 49, 51, 50, 51, 51, 51, 52, 51, 53, 51, 54, 51, 55, 51, 56, 51, 57, 52, 48, 52, 49, 52, 50, 52, 51, 52, 52, 52, 53, 52, 54, 52, 55, 52, 56, 52, 57, 53, 48, 53, 49, 53, 50, 53, 51, 53, 52, 53, 53, 53, 54, 53, 55, 53, 56, 53, 57, 54, 48, 54, 49, 54, 50, 54, 51, 54, 52, 54, 53, 54, 54, 54, 55, 54, 56, 54, 57, 55, 48, 55, 49, 55, 50, 55, 51, 55, 52, 55, 53, 55, 54, 55, 55, 55, 56, 55, 57, 56, 48, 56, 49, 56, 50, 56, 51, 56, 52, 56, 53, 56, 54, 56, 55, 56, 56, 56, 57, 57, 48, 57, 49, 57, 50, 57, 51, 57, 52, 57, 53, 57, 54, 57, 55, 57, 56, 57, 57]⟩)) (.r 7), none⟩, ⟨none, .mov (.v 7), none⟩, ⟨none, .stri (.c (.str ⟨#[48, 48, 48, 49, 48, 50, 48, 51, 48, 52, 48, 53, 48, 54, 48, 55, 48, 56, 48, 57, 49, 48, 49, 49, 49, 50, 49, 51, 49, 52, 49, 53, 49, 54, 49, 55, 49, 56, 49, 57, 50, 48, 50, 49, 50, 50, 50, 51, 50, 52, 50, 53, 50, 54, 50, 55, 50, 56, 50, 57, 51, 48, 51, 49, 51, 50, 51, 51, 51, 52, 51, 53, 51, 54, 51, 55, 51, 56, 51, 57, 52, 48, 52, 49, 52, 50, 52, 51, 52, 52, 52, 53, 52, 54, 52, 55, 52, 56, 52, 57, 53, 48, 53, 49, 53, 50, 53, 51, 53, 52, 53, 53, 53, 54, 53, 55, 53, 56, 53, 57, 54, 48, 54, 49, 54, 50, 54, 51, 54, 52, 54, 53, 54, 54, 54, 55, 54, 56, 54, 57, 55, 48, 55, 49, 55, 50, 55, 51, 55, 52, 55, 53, 55, 54, 55, 55, 55, 56, 55, 57, 56, 48, 56, 49, 56, 50, 56, 51, 56, 52, 56, 53, 56, 54, 56, 55, 56, 56, 56, 57, 57, 48, 57, 49, 57, 50, 57, 51, 57, 52, 57, 53, 57, 54, 57, 55, 57, 56, 57, 57]⟩)) (.r 9), none⟩, ⟨none, .iaddr 1 (.r 0) (.r 2), none⟩, ⟨none, .store 1 (.r 11) (.r 8), none⟩, ⟨none, .iaddr 1 (.r 3) (.r 5), none⟩, ⟨none, .store 1 (.r 13) (.r 10), none⟩])
  (.seq (.region true [] [⟨none, .mov (.v 0), none⟩, ⟨none, .mov (.v 2), none⟩, ⟨none, .bin false .sub (.r 1) (.c (.int .i64 3)), none⟩, ⟨none, .mov (.v 0), none⟩, ⟨none, .mov (.v 2), none⟩, ⟨none, .bin false .sub (.r 4) (.c (.int .i64 4)), none⟩, ⟨none, .mov (.v 6), none⟩, ⟨none, .bin false .add (.r 6) (.c (.int .u32 1)), none⟩, ⟨none, .stri (.c (.str ⟨#[48, 48, 48, 49, 48, 50, 48, 51, 48, 52, 48, 53, 48, 54, 48, 55, 48, 56, 48, 57, 49, 48, 49, 49, 49, 50, 49, 51, 49, 52, 49, 53, 49, 54, 49, 55, 49, 56, 49, 57, 50, 48, 50, 49, 50, 50, 50, 51, 50, 52, 50, 53, 50, 54, 50, 55, 50, 56, 50, 57, 51, 48, 51, 49, 51, 50, 51, 51, 51, 52, 51, 53, 51, 54, 51, 55, 51, 56, 51, 57, 52, 48, 52, 49, 52, 50, 52, 51, 52, 52, 52, 53, 52, 54, 52, 55, 52, 56, 52, 57, 53, 48, 53, 49, 53, 50, 53, 51, 53, 52, 53, 53, 53, 54, 53, 55, 53, 56, 53, 57, 54, 48, 54, 49, 54, 50, 54, 51, 54, 52, 54, 53, 54, 54, 54, 55, 54, 56, 54, 57, 55, 48, 55, 49, 55, 50, 55, 51, 55, 52, 55, 53, 55, 54, 55, 55, 55, 56, 55, 57, 56, 48, 56, 49, 56, 50, 56, 51, 56, 52, 56, 53, 56, 54, 56, 55, 56, 56, 56, 57, 57, 48, 57, 49, 57, 50, 57, 51, 57, 52, 57, 53, 57, 54, 57, 55, 57, 56, 57, 57]⟩)) (.r 7), none⟩, ⟨none, .mov (.v 6), none⟩, ⟨none, .stri (.c (.str ⟨#[48, 48, 48, 49, 48, 50, 48, 51, 48, 52, 48, 53, 48, 54, 48, 55, 48, 56, 48, 57, 49, 48, 49, 49, 49, 50, 49, 51, 49, 52, 49, 53, 49, 54, 49, 55, 49, 56, 49, 57, 50, 48, 50, 49, 50, 50, 50, 51, 50, 52, 50, 53, 50, 54, 50, 55, 50, 56, 50, 57, 51, 48, 51, 49, 51, 50, 51, 51, 51, 52, 51, 53, 51, 54, 51, 55, 51, 56, 51, 57, 52, 48, 52, 49, 52, 50, 52, 51, 52, 52, 52, 53, 52, 54, 52, 55, 52, 56, 52, 57, 53, 48, 53, 49, 53, 50, 53, 51, 53, 52, 53, 53, 53, 54, 53, 55, 53, 56, 53, 57, 54, 48, 54, 49, 54, 50, 54, 51, 54, 52, 54, 53, 54, 54, 54, 55, 54, 56, 54, 57, 55, 48, 55, 49, 55, 50, 55, 51, 55, 52, 55, 53, 55, 54, 55, 55, 55, 56, 55, 57, 56, 48, 56, 49, 56, 50, 56, 51, 56, 52, 56, 53, 56, 54, 56, 55, 56, 56, 56, 57, 57, 48, 57, 49, 57, 50, 57, 51, 57, 52, 57, 53, 57, 54, 57, 55, 57, 56, 57, 57]⟩)) (.r 9), none⟩, ⟨none, .iaddr 1 (.r 0) (.r 2), none⟩, ⟨none, .store 1 (.r 11) (.r 8), none⟩, ⟨none, .iaddr 1 (.r 3) (.r 5), none⟩, ⟨none, .store 1 (.r 13) (.r 10), none⟩])
  (.seq (.region true [] [⟨none, .mov (.v 0), none⟩, ⟨none, .mov (.v 2), none⟩, ⟨none, .bin false .sub (.r 1) (.c (.int .i64 5)), none⟩, ⟨none, .mov (.v 0), none⟩, ⟨none, .mov (.v 2), none⟩, ⟨none, .bin false .sub (.r 4) (.c (.int .i64 6)), none⟩, ⟨none, .mov (.v 9), none⟩, ⟨none, .bin false .add (.r 6) (.c (.int .u32 1)), none⟩, ⟨none, .stri (.c (.str ⟨#[48, 48, 48, 49, 48, 50, 48, 51, 48, 52, 48, 53, 48, 54, 48, 55, 48, 56, 48, 57, 49, 48, 49, 49, 49, 50, 49, 51, 49, 52, 49, 53, 49, 54, 49, 55, 49, 56, 49, 57, 50, 48, 50, 49, 50, 50, 50, 51, 50, 52, 50, 53, 50, 54, 50, 55, 50, 56, 50, 57, 51, 48, 51, 49, 51, 50, 51, 51, 51, 52, 51, 53, 51, 54, 51, 55, 51, 56, 51, 57, 52, 48, 52, 49, 52, 50, 52, 51, 52, 52, 52, 53, 52, 54, 52, 55, 52, 56, 52, 57, 53, 48, 53, 49, 53, 50, 53, 51, 53, 52, 53, 53, 53, 54, 53, 55, 53, 56, 53, 57, 54, 48, 54, 49, 54, 50, 54, 51, 54, 52, 54, 53, 54, 54, 54, 55, 54, 56, 54, 57, 55, 48, 55, 49, 55, 50, 55, 51, 55, 52, 55, 53, 55, 54, 55, 55, 55, 56, 55, 57, 56, 48, 56, 49, 56, 50, 56, 51, 56, 52, 56, 53, 56, 54, 56, 55, 56, 56, 56, 57, 57, 48, 57, 49, 57, 50, 57, 51, 57, 52, 57, 53, 57, 54, 57, 55, 57, 56, 57, 57]⟩)) (.r 7), none⟩, ⟨none, .mov (.v 9), none⟩, ⟨none, .stri (.c (.str ⟨#[48, 48, 48, 49, 48, 50, 48, 51, 48, 52, 48, 53, 48, 54, 48, 55, 48, 56, 48, 57, 49, 48, 49, 49, 49, 50, 49, 51, 49, 52, 49, 53, 49, 54, 49, 55, 49, 56, 49, 57, 50, 48, 50, 49, 50, 50, 50, 51, 50, 52, 50, 53, 50, 54, 50, 55, 50, 56, 50, 57, 51, 48, 51, 49, 51, 50, 51, 51, 51, 52, 51, 53, 51, 54, 51, 55, 51, 56, 51, 57, 52, 48, 52, 49, 52, 50, 52, 51, 52, 52, 52, 53, 52, 54, 52, 55, 52, 56, 52, 57, 53, 48, 53, 49, 53, 50, 53, 51, 53, 52, 53, 53, 53, 54, 53, 55, 53, 56, 53, 57, 54, 48, 54, 49, 54, 50, 54, 51, 54, 52, 54, 53, 54, 54, 54, 55, 54, 56, 54, 57, 55, 48, 55, 49, 55, 50, 55, 51, 55, 52, 55, 53, 55, 54, 55, 55, 55, 56, 55, 57, 56, 48, 56, 49, 56, 50, 56, 51, 56, 52, 56, 53, 56, 54, 56, 55, 56, 56, 56, 57, 57, 48, 57, 49, 57, 50, 57, 51, 57, 52, 57, 53, 57, 54, 57, 55, 57, 56, 57, 57]⟩)) (.r 9), none⟩, ⟨none, .iaddr 1 (.r 0) (.r 2), none⟩, ⟨none, .store 1 (.r 11) (.r 8), none⟩, ⟨none, .iaddr 1 (.r 3) (.r 5), none⟩, ⟨none, .store 1 (.r 13) (.r 10), none⟩])
  (.seq (.region true [] [⟨none, .mov (.v 0), none⟩, ⟨none, .mov (.v 2), none⟩, ⟨none, .bin false .sub (.r 1) (.c (.int .i64 7)), none⟩, ⟨none, .mov (.v 0), none⟩, ⟨none, .mov (.v 2), none⟩, ⟨none, .bin false .sub (.r 4) (.c (.int .i64 8)), none⟩, ⟨none, .mov (.v 8), none⟩, ⟨none, .bin false .add (.r 6) (.c (.int .u32 1)), none⟩, ⟨none, .stri (.c (.str ⟨#[48, 48, 48, 49, 48, 50, 48, 51, 48, 52, 48, 53, 48, 54, 48, 55, 48, 56, 48, 57, 49, 48, 49, 49, 49, 50, 49, 51, 49, 52, 49, 53, 49, 54, 49, 55, 49, 56, 49, 57, 50, 48, 50, 49, 50, 50, 50, 51, 50, 52, 50, 53, 50, 54, 50, 55, 50, 56, 50, 57, 51, 48, 51, 49, 51, 50, 51, 51, 51, 52, 51, 53, 51, 54, 51, 55, 51, 56, 51, 57, 52, 48, 52, 49, 52, 50, 52, 51, 52, 52, 52, 53, 52, 54, 52, 55, 52, 56, 52, 57, 53, 48, 53, 49, 53, 50, 53, 51, 53, 52, 53, 53, 53, 54, 53, 55, 53, 56, 53, 57, 54, 48, 54, 49, 54, 50, 54, 51, 54, 52, 54, 53, 54, 54, 54, 55, 54, 56, 54, 57, 55, 48, 55, 49, 55, 50, 55, 51, 55, 52, 55, 53, 55, 54, 55, 55, 55, 56, 55, 57, 56, 48, 56, 49, 56, 50, 56, 51, 56, 52, 56, 53, 56, 54, 56, 55, 56, 56, 56, 57, 57, 48, 57, 49, 57, 50, 57, 51, 57, 52, 57, 53, 57, 54, 57, 55, 57, 56, 57, 57]⟩)) (.r 7), none⟩, ⟨none, .mov (.v 8), none⟩, ⟨none, .stri (.c (.str ⟨#[48, 48, 48, 49, 48, 50, 48, 51, 48, 52, 48, 53, 48, 54, 48, 55, 48, 56, 48, 57, 49, 48, 49, 49, 49, 50, 49, 51, 49, 52, 49, 53, 49, 54, 49, 55, 49, 56, 49, 57, 50, 48, 50, 49, 50, 50, 50, 51, 50, 52, 50, 53, 50, 54, 50, 55, 50, 56, 50, 57, 51, 48, 51, 49, 51, 50, 51, 51, 51, 52, 51, 53, 51, 54, 51, 55, 51, 56, 51, 57, 52, 48, 52, 49, 52, 50, 52, 51, 52, 52, 52, 53, 52, 54, 52, 55, 52, 56, 52, 57, 53, 48, 53, 49, 53, 50, 53, 51, 53, 52, 53, 53, 53, 54, 53, 55, 53, 56, 53, 57, 54, 48, 54, 49, 54, 50, 54, 51, 54, 52, 54, 53, 54, 54, 54, 55, 54, 56, 54, 57, 55, 48, 55, 49, 55, 50, 55, 51, 55, 52, 55, 53, 55, 54, 55, 55, 55, 56, 55, 57, 56, 48, 56, 49, 56, 50, 56, 51, 56, 52, 56, 53, 56, 54, 56, 55, 56, 56, 56, 57, 57, 48, 57, 49, 57, 50, 57, 51, 57, 52, 57, 53, 57, 54, 57, 55, 57, 56, 57, 57]⟩)) (.r 9), none⟩, ⟨none, .iaddr 1 (.r 0) (.r 2), none⟩, ⟨none, .store 1 (.r 11) (.r 8), none⟩, ⟨none, .iaddr 1 (.r 3) (.r 5), none⟩, ⟨none, .store 1 (.r 13) (.r 10), none⟩])
  (.region false [] [⟨none, .mov (.v 2), none⟩, ⟨none, .bin false .sub (.r 0) (.c (.int .i64 8)), none⟩, ⟨some 2, .mov (.r 1), none⟩]))))))))))))))
  (.seq (.region false [] [⟨none, .mov (.v 1), none⟩, ⟨none, .conv .u32 (.r 0), none⟩, ⟨some 10, .mov (.r 1), none⟩])
  (.seq (.seq (.region false [] [⟨none, .mov (.v 2), none⟩, ⟨some 16, .bin false .geq (.r 0) (.c (.int .i64 4)), none⟩])
  (.cond (.v 16) (.seq (.region false [] [⟨none, .mov (.v 10), none⟩, ⟨none, .bin false .rem (.r 0) (.c (.int .u32 10000)), none⟩, ⟨some 11, .mov (.r 1), none⟩])
  (.seq (.region false [] [⟨none, .mov (.v 10), none⟩, ⟨none, .bin false .quo (.r 0) (.c (.int .u32 10000)), none⟩, ⟨some 10, .mov (.r 1), none⟩])
  (.seq (.region false [] [⟨none, .mov (.v 11), none⟩, ⟨none, .bin false .quo (.r 0) (.c (.int .u32 100)), none⟩, ⟨none, .bin false .mul (.r 1) (.c (.int .u32 2)), none⟩, ⟨none, .mov (.v 11), none⟩, ⟨none, .bin false .rem (.r 3) (.c (.int .u32 100)), none⟩, ⟨none, .bin false .mul (.r 4) (.c (.int .u32 2)), none⟩, ⟨some 12, .mov (.r 2), none⟩, ⟨some 13, .mov (.r 5), none⟩])
  (.seq (.region true [] [⟨none, .mov (.v 0), none⟩, ⟨none, .mov (.v 2), none⟩, ⟨none, .bin false .sub (.r 1) (.c (.int .i64 1)), none⟩, ⟨none, .mov (.v 0), none⟩, ⟨none, .mov (.v 2), none⟩, ⟨none, .bin false .sub (.r 4) (.c (.int .i64 2)), none⟩, ⟨none, .mov (.v 13), none⟩, ⟨none, .bin false .add (.r 6) (.c (.int .u32 1)), none⟩, ⟨none, .stri (.c (.str ⟨#[48, 48, 48, 49, 48, 50, 48, 51, 48, 52, 48, 53, 48, 54, 48, 55, 48, 56, 48, 57, 49, 48, 49, 49, 49, 50, 49, 51, 49, 52, 49, 53, 49, 54, 49, 55, 49, 56, 49, 57, 50, 48, 50, 49, 50, 50, 50, 51, 50, 52, 50, 53, 50, 54, 50, 55, 50, 56, 50, 57, 51, 48, 51, 49, 51, 50, 51, 51, 51, 52, 51, 53, 51, 54, 51, 55, 51, 56, 51, 57, 52, 48, 52, 49, 52, 50, 52, 51, 52, 52, 52, 53, 52, 54, 52, 55, 52, 56, 52, 57, 53, 48, 53, 49, 53, 50, 53, 51, 53, 52, 53, 53, 53, 54, 53, 55, 53, 56, 53, 57, 54, 48, 54, 49, 54, 50, 54, 51, 54, 52, 54, 53, 54, 54, 54, 55, 54, 56, 54, 57, 55, 48, 55, 49, 55, 50, 55, 51, 55, 52, 55, 53, 55, 54, 55, 55, 55, 56, 55, 57, 56, 48, 56, 49, 56, 50, 56, 51, 56, 52, 56, 53, 56, 54, 56, 55, 56, 56, 56, 57, 57, 48, 57, 49, 57, 50, 57, 51, 57, 52, 57, 53, 57, 54, 57, 55, 57, 56, 57, 57]⟩)) (.r 7), none⟩, ⟨none, .mov (.v 13), none⟩, ⟨none, .stri (.c (.str ⟨#[48, 48, 48, 49, 48, 50, 48, 51, 48, 52, 48, 53, 48, 54, 48, 55, 48, 56, 48, 57, 49, 48, 49, 49, 49, 50, 49, 51, 49, 52, 49, 53, 49, 54, 49, 55, 49, 56, 49, 57, 50, 48, 50, 49, 50, 50, 50, 51, 50, 52, 50, 53, 50, 54, 50, 55, 50, 56, 50, 57, 51, 48, 51, 49, 51, 50, 51, 51, 51, 52, 51, 53, 51, 54, 51, 55, 51, 56, 51, 57, 52, 48, 52, 49, 52, 50, 52, 51, 52, 52, 52, 53, 52, 54, 52, 55, 52, 56, 52, 57, 53, 48, 53, 49, 53, 50, 53, 51, 53, 52, 53, 53, 53, 54, 53, 55, 53, 56, 53, 57, 54, 48, 54, 49, 54, 50, 54, 51, 54, 52, 54, 53, 54, 54, 54, 55, 54, 56, 54, 57, 55, 48, 55, 49, 55, 50, 55, 51, 55, 52, 55, 53, 55, 54, 55, 55, 55, 56, 55, 57, 56, 48, 56, 49, 56, 50, 56, 51, 56, 52, 56, 53, 56, 54, 56, 55, 56, 56, 56, 57, 57, 48, 57, 49, 57, 50, 57, 51, 57, 52, 57, 53, 57, 54, 57, 55, 57, 56, 57, 57]⟩)) (.r 9), none⟩, ⟨none, .iaddr 1 (.r 0) (.r 2), none⟩, ⟨none, .store 1 (.r 11) (.r 8), none⟩, ⟨none, .iaddr 1 (.r 3) (.r 5), none⟩, ⟨none, .store 1 (.r 13) (.r 10), none⟩])
  (.seq (.region true [] [⟨none, .mov (.v 0), none⟩, ⟨none, .mov (.v 2), none⟩, ⟨none, .bin false .sub (.r 1) (.c (.int .i64 3)), none⟩, ⟨none, .mov (.v 0), none⟩, ⟨none, .mov (.v 2), none⟩, ⟨none, .bin false .sub (.r 4) (.c (.int .i64 4)), none⟩, ⟨none, .mov (.v 12), none⟩, ⟨none, .bin false .add (.r 6) (.c (.int .u32 1)), none⟩, ⟨none, .stri (.c (.str ⟨#[48, 48, 48, 49, 48, 50, 48, 51, 48, 52, 48, 53, 48, 54, 48, 55, 48, 56, 48, 57, 49, 48, 49, 49, 49, 50, 49, 51, 49, 52, 49, 53, 49, 54, 49, 55, 49, 56, 49, 57, 50, 48, 50, 49, 50, 50, 50, 51, 50, 52, 50, 53, 50, 54, 50, 55, 50, 56, 50, 57, 51, 48, 51, 49, 51, 50, 51, 51, 51, 52, 51, 53, 51, 54, 51, 55, 51, 56, 51, 57, 52, 48, 52, 49, 52, 50, 52, 51, 52, 52, 52, 53, 52, 54, 52, 55, 52, 56, 52, 57, 53, 48, 53, 49, 53, 50, 53, 51, 53, 52, 53, 53, 53, 54, 53, 55, 53, 56, 53, 57, 54, 48, 54, 49, 54, 50, 54, 51, 54, 52, 54, 53, 54, 54, 54, 55, 54, 56, 54, 57, 55, 48, 55, 49, 55, 50, 55, 51, 55, 52, 55, 53, 55, 54, 55, 55, 55, 56, 55, 57, 56, 48, 56, 49, 56, 50, 56, 51, 56, 52, 56, 53, 56, 54, 56, 55, 56, 56, 56, 57, 57, 48, 57, 49, 57, 50, 57, 51, 57, 52, 57, 53, 57, 54, 57, 55, 57, 56, 57, 57]⟩)) (.r 7), none⟩, ⟨none, .mov (.v 12), none⟩, ⟨none, .stri (.c (.str ⟨#[48, 48, 48, 49, 48, 50, 48, 51, 48, 52, 48, 53, 48, 54, 48, 55, 48, 56, 48, 57, 49, 48, 49, 49, 49, 50, 49, 51, 49, 52, 49, 53, 49, 54, 49, 55, 49, 56, 49, 57, 50, 48, 50, 49, 50, 50, 50, 51, 50, 52, 50, 53, 50, 54, 50, 55, 50, 56, 50, 57, 51, 48, 51, 49, 51, 50, 51, 51, 51, 52, 51, 53, 51, 54, 51, 55, 51, 56, 51, 57, 52, 48, 52, 49, 52, 50, 52, 51, 52, 52, 52, 53, 52, 54, 52, 55, 52, 56, 52, 57, 53, 48, 53, 49, 53, 50, 53, 51, 53, 52, 53, 53, 53, 54, 53, 55, 53, 56, 53, 57, 54, 48, 54, 49, 54, 50, 54, 51, 54, 52, 54, 53, 54, 54, 54, 55, 54, 56, 54, 57, 55, 48, 55, 49, 55, 50, 55, 51, 55, 52, 55, 53, 55, 54, 55, 55, 55, 56, 55, 57, 56, 48, 56, 49, 56, 50, 56, 51, 56, 52, 56, 53, 56, 54, 56, 55, 56, 56, 56, 57, 57, 48, 57, 49, 57, 50, 57, 51, 57, 52, 57, 53, 57, 54, 57, 55, 57, 56, 57, 57]⟩)) (.r 9), none⟩, ⟨none, .iaddr 1 (.r 0) (.r 2), none⟩, ⟨none, .store 1 (.r 11) (.r 8), none⟩, ⟨none, .iaddr 1 (.r 3) (.r 5), none⟩, ⟨none, .store 1 (.r 13) (.r 10), none⟩])
  (.region false [] [⟨none, .mov (.v 2), none⟩, ⟨none, .bin false .sub (.r 0) (.c (.int .i64 4)), none⟩, ⟨some 2, .mov (.r 1), none⟩])))))) .skip))
  (.seq (.seq (.region false [] [⟨none, .mov (.v 2), none⟩, ⟨some 17, .bin false .geq (.r 0) (.c (.int .i64 2)), none⟩])
  (.cond (.v 17) (.seq (.region false [] [⟨none, .mov (.v 10), none⟩, ⟨none, .bin false .rem (.r 0) (.c (.int .u32 100)), none⟩, ⟨none, .bin false .mul (.r 1) (.c (.int .u32 2)), none⟩, ⟨some 14, .mov (.r 2), none⟩])
  (.seq (.region false [] [⟨none, .mov (.v 10), none⟩, ⟨none, .bin false .quo (.r 0) (.c (.int .u32 100)), none⟩, ⟨some 10, .mov (.r 1), none⟩])
  (.seq (.region true [] [⟨none, .mov (.v 0), none⟩, ⟨none, .mov (.v 2), none⟩, ⟨none, .bin false .sub (.r 1) (.c (.int .i64 1)), none⟩, ⟨none, .mov (.v 0), none⟩, ⟨none, .mov (.v 2), none⟩, ⟨none, .bin false .sub (.r 4) (.c (.int .i64 2)), none⟩, ⟨none, .mov (.v 14), none⟩, ⟨none, .bin false .add (.r 6) (.c (.int .u32 1)), none⟩, ⟨none, .stri (.c (.str ⟨#[48, 48, 48, 49, 48, 50, 48, 51, 48, 52, 48, 53, 48, 54, 48, 55, 48, 56, 48, 57, 49, 48, 49, 49, 49, 50, 49, 51, 49, 52, 49, 53, 49, 54, 49, 55, 49, 56, 49, 57, 50, 48, 50, 49, 50, 50, 50, 51, 50, 52, 50, 53, 50, 54, 50, 55, 50, 56, 50, 57, 51, 48, 51, 49, 51, 50, 51, 51, 51, 52, 51, 53, 51, 54, 51, 55, 51, 56, 51, 57, 52, 48, 52, 49, 52, 50, 52, 51, 52, 52, 52, 53, 52, 54, 52, 55, 52, 56, 52, 57, 53, 48, 53, 49, 53, 50, 53, 51, 53, 52, 53, 53, 53, 54, 53, 55, 53, 56, 53, 57, 54, 48, 54, 49, 54, 50, 54, 51, 54, 52, 54, 53, 54, 54, 54, 55, 54, 56, 54, 57, 55, 48, 55, 49, 55, 50, 55, 51, 55, 52, 55, 53, 55, 54, 55, 55, 55, 56, 55, 57, 56, 48, 56, 49, 56, 50, 56, 51, 56, 52, 56, 53, 56, 54, 56, 55, 56, 56, 56, 57, 57, 48, 57, 49, 57, 50, 57, 51, 57, 52, 57, 53, 57, 54, 57, 55, 57, 56, 57, 57]⟩)) (.r 7), none⟩, ⟨none, .mov (.v 14), none⟩, ⟨none, .stri (.c (.str ⟨#[48, 48, 48, 49, 48, 50, 48, 51, 48, 52, 48, 53, 48, 54, 48, 55, 48, 56, 48, 57, 49, 48, 49, 49, 49, 50, 49, 51, 49, 52, 49, 53, 49, 54, 49, 55, 49, 56, 49, 57, 50, 48, 50, 49, 50, 50, 50, 51, 50, 52, 50, 53, 50, 54, 50, 55, 50, 56, 50, 57, 51, 48, 51, 49, 51, 50, 51, 51, 51, 52, 51, 53, 51, 54, 51, 55, 51, 56, 51, 57, 52, 48, 52, 49, 52, 50, 52, 51, 52, 52, 52, 53, 52, 54, 52, 55, 52, 56, 52, 57, 53, 48, 53, 49, 53, 50, 53, 51, 53, 52, 53, 53, 53, 54, 53, 55, 53, 56, 53, 57, 54, 48, 54, 49, 54, 50, 54, 51, 54, 52, 54, 53, 54, 54, 54, 55, 54, 56, 54, 57, 55, 48, 55, 49, 55, 50, 55, 51, 55, 52, 55, 53, 55, 54, 55, 55, 55, 56, 55, 57, 56, 48, 56, 49, 56, 50, 56, 51, 56, 52, 56, 53, 56, 54, 56, 55, 56, 56, 56, 57, 57, 48, 57, 49, 57, 50, 57, 51, 57, 52, 57, 53, 57, 54, 57, 55, 57, 56, 57, 57]⟩)) (.r 9), none⟩, ⟨none, .iaddr 1 (.r 0) (.r 2), none⟩, ⟨none, .store 1 (.r 11) (.r 8), none⟩, ⟨none, .iaddr 1 (.r 3) (.r 5), none⟩, ⟨none, .store 1 (.r 13) (.r 10), none⟩])
  (.region false [] [⟨none, .mov (.v 2), none⟩, ⟨none, .bin false .sub (.r 0) (.c (.int .i64 2)), none⟩, ⟨some 2, .mov (.r 1), none⟩])))) .skip))
  (.seq (.region false [] [⟨none, .mov (.v 2), none⟩, ⟨some 18, .bin false .gtr (.r 0) (.c (.int .i64 0)), none⟩])
  (.cond (.v 18) (.region false [] [⟨none, .mov (.v 0), none⟩, ⟨none, .mov (.v 10), none⟩, ⟨none, .bin false .add (.c (.int .u32 48)) (.r 1), none⟩, ⟨none, .conv .u8 (.r 2), none⟩, ⟨none, .iaddr 1 (.r 0) (.c (.int .i64 0)), none⟩, ⟨none, .store 1 (.r 4) (.r 3), none⟩]) .skip))))))),
  []⟩
def ir_internal_strconv_isPowerOfTwo : IFun := ⟨[0, 2],
  (.seq (.region false [] [⟨some 1, .mov (.c (.bool false)), none⟩])
  (.seq (.region false [] [⟨none, .mov (.v 0), none⟩, ⟨none, .mov (.v 0), none⟩, ⟨none, .bin false .sub (.r 1) (.c (.int .i64 1)), none⟩, ⟨none, .bin false .and (.r 0) (.r 2), none⟩, ⟨none, .bin false .eql (.r 3) (.c (.int .i64 0)), none⟩, ⟨some 1, .mov (.r 4), none⟩])
  .ret)),
  [.v 1]⟩
def ir_math_bits_TrailingZeros32 : IFun := ⟨[0, 2, 4],
  (.seq (.region false [] [⟨some 1, .mov (.c (.int .i64 0)), none⟩])
  (.seq (.seq (.region false [] [⟨none, .mov (.v 0), none⟩, ⟨some 2, .bin false .eql (.r 0) (.c (.int .u32 0)), none⟩])
  (.cond (.v 2) (.seq (.region false [] [⟨some 1, .mov (.c (.int .i64 32)), none⟩])
  .ret) .skip))
  (.seq (.region false [] [⟨none, .mov (.v 0), none⟩, ⟨none, .mov (.v 0), none⟩, ⟨none, .neg (.r 1), none⟩, ⟨none, .bin false .and (.r 0) (.r 2), none⟩, ⟨none, .bin false .mul (.r 3) (.c (.int .u32 125613361)), none⟩, ⟨none, .bin false .shr (.r 4) (.c (.int .u64 27)), none⟩, ⟨none, .bad, none⟩, ⟨none, .load false 1 (.r 6), none⟩, ⟨none, .conv .i64 (.r 7), none⟩, ⟨some 1, .mov (.r 8), none⟩])
  .ret))),
  [.v 1]⟩
def ir_math_bits_TrailingZeros64 : IFun := ⟨[0, 2, 4],
  (.seq (.region false [] [⟨some 1, .mov (.c (.int .i64 0)), none⟩])
  (.seq (.seq (.region false [] [⟨none, .mov (.v 0), none⟩, ⟨some 2, .bin false .eql (.r 0) (.c (.int .u64 0)), none⟩])
  (.cond (.v 2) (.seq (.region false [] [⟨some 1, .mov (.c (.int .i64 64)), none⟩])
  .ret) .skip))
  (.seq (.region false [] [⟨none, .mov (.v 0), none⟩, ⟨none, .mov (.v 0), none⟩, ⟨none, .neg (.r 1), none⟩, ⟨none, .bin false .and (.r 0) (.r 2), none⟩, ⟨none, .bin false .mul (.r 3) (.c (.int .u64 285870213051353865)), none⟩, ⟨none, .bin false .shr (.r 4) (.c (.int .u64 58)), none⟩, ⟨none, .bad, none⟩, ⟨none, .load false 1 (.r 6), none⟩, ⟨none, .conv .i64 (.r 7), none⟩, ⟨some 1, .mov (.r 8), none⟩])
  .ret))),
  [.v 1]⟩
def ir_math_bits_TrailingZeros : IFun := ⟨[0, 2],
  (.seq (.region false [] [⟨some 1, .mov (.c (.int .i64 0)), none⟩])
  (.seq (.cond (.c (.bool false)) (.seq (.region false [] [⟨none, .mov (.v 0), none⟩, ⟨none, .conv .u32 (.r 0), none⟩, ⟨none, .call false f_math_bits_TrailingZeros32 [(.r 1)], none⟩, ⟨some 1, .mov (.r 2), none⟩])
  .ret) .skip)
  (.seq (.region false [] [⟨none, .mov (.v 0), none⟩, ⟨none, .call false f_math_bits_TrailingZeros64 [(.r 0)], none⟩, ⟨some 1, .mov (.r 1), none⟩])
  .ret))),
  [.v 1]⟩
def ir_internal_strconv_formatBits : IFun := ⟨[0, 1, 2, 3, 4, 10, 11, 12, 13, 14, 15, 16, 17, 18, 28, 30, 34, 46, 68, 89, 94],
  (.seq (.region false [] [⟨some 5, .nilrow t_uint8 true 1, none⟩, ⟨some 6, .mov (.c (.str ⟨#[]⟩)), none⟩])
  (.seq (.seq (.region false [] [⟨none, .mov (.v 2), none⟩, ⟨none, .bin false .lss (.r 0) (.c (.int .i64 2)), none⟩, ⟨none, .mov (.r 1), none⟩, ⟨none, .mov (.v 2), some (2, false)⟩, ⟨none, .bin false .eql (.r 3) (.c (.int .i64 10)), some (2, false)⟩, ⟨none, .pick (.r 2) (.c (.bool true)) (.r 4), none⟩, ⟨none, .mov (.r 5), none⟩, ⟨none, .mov (.v 2), some (6, false)⟩, ⟨none, .bin false .gtr (.r 7) (.c (.int .i64 36)), some (6, false)⟩, ⟨some 14, .pick (.r 6) (.c (.bool true)) (.r 8), none⟩])
  (.cond (.v 14) (.region false [] [⟨none, .bad, none⟩, ⟨none, .bad, none⟩]) .skip))
  (.seq (.region false [] [⟨some 7, .bad, none⟩])
  (.seq (.region false [] [⟨some 8, .mov (.c (.int .i64 65)), none⟩])
  (.seq (.seq (.region false [] [⟨some 15, .mov (.v 3), none⟩])
  (.cond (.v 15) (.region false [] [⟨none, .mov (.v 1), none⟩, ⟨none, .neg (.r 0), none⟩, ⟨some 1, .mov (.r 1), none⟩]) .skip))
  (.seq (.seq (.region false [] [⟨none, .mov (.v 2), none⟩, ⟨some 16, .call false f_internal_strconv_isPowerOfTwo [(.r 0)], none⟩])
  (.cond (.v 16) (.seq (.region false [] [⟨none, .mov (.v 2), none⟩, ⟨none, .conv .u64 (.r 0), none⟩, ⟨none, .call false f_math_bits_TrailingZeros [(.r 1)], none⟩, ⟨none, .conv .u64 (.r 2), none⟩, ⟨some 9, .mov (.r 3), none⟩])
  (.seq (.region false [] [⟨none, .mov (.v 2), none⟩, ⟨none, .conv .u64 (.r 0), none⟩, ⟨some 10, .mov (.r 1), none⟩])
  (.seq (.region false [] [⟨none, .mov (.v 2), none⟩, ⟨none, .conv .u64 (.r 0), none⟩, ⟨none, .bin false .sub (.r 1) (.c (.int .u64 1)), none⟩, ⟨some 11, .mov (.r 2), none⟩])
  (.seq (.block 0 (.loop [true, true, false, true, true, true, true, true, true, true, true, true, false, false, false, false, false, false, false, false, false] (.seq (.seq (.region false [] [⟨none, .mov (.v 1), none⟩, ⟨none, .mov (.v 10), none⟩, ⟨some 17, .bin false .geq (.r 0) (.r 1), none⟩])
  (.cond (.v 17) .skip (.exit 0)))
  (.block 1 (.seq (.region false [] [⟨none, .mov (.v 8), none⟩, ⟨none, .bin false .sub (.r 0) (.c (.int .i64 1)), none⟩, ⟨some 8, .mov (.r 1), none⟩])
  (.seq (.region false [] [⟨none, .mov (.v 8), none⟩, ⟨none, .mov (.v 1), none⟩, ⟨none, .mov (.v 11), none⟩, ⟨none, .bin false .and (.r 1) (.r 2), none⟩, ⟨none, .stri (.c (.str ⟨#[48, 49, 50, 51, 52, 53, 54, 55, 56, 57, 97, 98, 99, 100, 101, 102, 103, 104, 105, 106, 107, 108, 109, 110, 111, 112, 113, 114, 115, 116, 117, 118, 119, 120, 121, 122]⟩)) (.r 3), none⟩, ⟨none, .bad, none⟩, ⟨none, .store 1 (.r 5) (.r 4), none⟩])
  (.region false [] [⟨none, .mov (.v 1), none⟩, ⟨none, .mov (.v 9), none⟩, ⟨none, .bin false .shr (.r 0) (.r 1), none⟩, ⟨some 1, .mov (.r 2), none⟩])))))))
  (.seq (.region false [] [⟨none, .mov (.v 8), none⟩, ⟨none, .bin false .sub (.r 0) (.c (.int .i64 1)), none⟩, ⟨some 8, .mov (.r 1), none⟩])
  (.region false [] [⟨none, .mov (.v 8), none⟩, ⟨none, .mov (.v 1), none⟩, ⟨none, .stri (.c (.str ⟨#[48, 49, 50, 51, 52, 53, 54, 55, 56, 57, 97, 98, 99, 100, 101, 102, 103, 104, 105, 106, 107, 108, 109, 110, 111, 112, 113, 114, 115, 116, 117, 118, 119, 120, 121, 122]⟩)) (.r 1), none⟩, ⟨none, .bad, none⟩, ⟨none, .store 1 (.r 3) (.r 2), none⟩])))))) (.seq (.region false [] [⟨none, .mov (.v 2), none⟩, ⟨none, .conv .u64 (.r 0), none⟩, ⟨some 12, .mov (.r 1), none⟩])
  (.seq (.block 2 (.loop [true, true, false, true, true, true, true, true, true, false, false, false, true, false, false, false, false, false, false, false, false] (.seq (.seq (.region false [] [⟨none, .mov (.v 1), none⟩, ⟨none, .mov (.v 12), none⟩, ⟨some 18, .bin false .geq (.r 0) (.r 1), none⟩])
  (.cond (.v 18) .skip (.exit 2)))
  (.block 3 (.seq (.region false [] [⟨none, .mov (.v 8), none⟩, ⟨none, .bin false .sub (.r 0) (.c (.int .i64 1)), none⟩, ⟨some 8, .mov (.r 1), none⟩])
  (.seq (.region false [] [⟨none, .mov (.v 1), none⟩, ⟨none, .mov (.v 12), none⟩, ⟨none, .bin false .quo (.r 0) (.r 1), none⟩, ⟨some 13, .mov (.r 2), none⟩])
  (.seq (.region false [] [⟨none, .mov (.v 8), none⟩, ⟨none, .mov (.v 1), none⟩, ⟨none, .mov (.v 13), none⟩, ⟨none, .mov (.v 12), none⟩, ⟨none, .bin false .mul (.r 2) (.r 3), none⟩, ⟨none, .bin false .sub (.r 1) (.r 4), none⟩, ⟨none, .stri (.c (.str ⟨#[48, 49, 50, 51, 52, 53, 54, 55, 56, 57, 97, 98, 99, 100, 101, 102, 103, 104, 105, 106, 107, 108, 109, 110, 111, 112, 113, 114, 115, 116, 117, 118, 119, 120, 121, 122]⟩)) (.r 5), none⟩, ⟨none, .bad, none⟩, ⟨none, .store 1 (.r 7) (.r 6), none⟩])
  (.region false [] [⟨none, .mov (.v 13), none⟩, ⟨some 1, .mov (.r 0), none⟩]))))))))
  (.seq (.region false [] [⟨none, .mov (.v 8), none⟩, ⟨none, .bin false .sub (.r 0) (.c (.int .i64 1)), none⟩, ⟨some 8, .mov (.r 1), none⟩])
  (.region false [] [⟨none, .mov (.v 8), none⟩, ⟨none, .mov (.v 1), none⟩, ⟨none, .stri (.c (.str ⟨#[48, 49, 50, 51, 52, 53, 54, 55, 56, 57, 97, 98, 99, 100, 101, 102, 103, 104, 105, 106, 107, 108, 109, 110, 111, 112, 113, 114, 115, 116, 117, 118, 119, 120, 121, 122]⟩)) (.r 1), none⟩, ⟨none, .bad, none⟩, ⟨none, .store 1 (.r 3) (.r 2), none⟩]))))))
  (.seq (.seq (.region false [] [⟨some 19, .mov (.v 3), none⟩])
  (.cond (.v 19) (.seq (.region false [] [⟨none, .mov (.v 8), none⟩, ⟨none, .bin false .sub (.r 0) (.c (.int .i64 1)), none⟩, ⟨some 8, .mov (.r 1), none⟩])
  (.region false [] [⟨none, .mov (.v 8), none⟩, ⟨none, .bad, none⟩, ⟨none, .store 1 (.r 1) (.c (.int .u8 45)), none⟩])) .skip))
  (.seq (.seq (.region false [] [⟨some 20, .mov (.v 4), none⟩])
  (.cond (.v 20) (.seq (.region false [] [⟨none, .mov (.v 0), none⟩, ⟨none, .mov (.v 8), none⟩, ⟨none, .bad, none⟩, ⟨none, .append t_uint8 true 1 (.r 0) (.r 2), none⟩, ⟨some 5, .mov (.r 3), none⟩])
  .ret) .skip))
  (.seq (.region false [] [⟨none, .mov (.v 8), none⟩, ⟨none, .bad, none⟩, ⟨none, .strb (.r 1), none⟩, ⟨some 6, .mov (.r 2), none⟩])
  .ret))))))))),
  [.v 5, .v 6]⟩
def ir_internal_strconv_FormatInt : IFun := ⟨[0, 1, 4, 5, 6, 7, 9, 11, 17, 23, 34],
  (.seq (.region false [] [⟨some 2, .mov (.c (.str ⟨#[]⟩)), none⟩])
  (.seq (.seq (.region false [] [⟨none, .mov (.v 1), none⟩, ⟨some 7, .bin false .eql (.r 0) (.c (.int .i64 10)), none⟩])
  (.cond (.v 7) (.seq (.seq (.region false [] [⟨none, .mov (.v 0), none⟩, ⟨none, .bin false .leq (.c (.int .i64 0)) (.r 0), none⟩, ⟨none, .mov (.r 1), none⟩, ⟨none, .mov (.v 0), some (2, true)⟩, ⟨none, .bin false .lss (.r 3) (.c (.int .i64 100)), some (2, true)⟩, ⟨some 8, .pick (.r 2) (.r 4) (.c (.bool false)), none⟩])
  (.cond (.v 8) (.seq (.region false [] [⟨none, .mov (.v 0), none⟩, ⟨none, .call false f_internal_strconv_small [(.r 0)], none⟩, ⟨some 2, .mov (.r 1), none⟩])
  .ret) .skip))
  (.seq (.region false [] [⟨some 3, .bad, none⟩])
  (.seq (.region false [] [⟨none, .mov (.v 0), none⟩, ⟨none, .conv .u64 (.r 0), none⟩, ⟨some 4, .mov (.r 1), none⟩])
  (.seq (.seq (.region false [] [⟨none, .mov (.v 0), none⟩, ⟨some 9, .bin false .lss (.r 0) (.c (.int .i64 0)), none⟩])
  (.cond (.v 9) (.region false [] [⟨none, .mov (.v 4), none⟩, ⟨none, .neg (.r 0), none⟩, ⟨some 4, .mov (.r 1), none⟩]) .skip))
  (.seq (.region false [] [⟨none, .mov (.v 4), none⟩, ⟨none, .call false f_internal_strconv_numDigits [(.r 0)], none⟩, ⟨some 5, .mov (.r 1), none⟩])
  (.seq (.region false [] [⟨none, .mov (.v 5), none⟩, ⟨none, .bin false .add (.c (.int .i64 1)) (.r 0), none⟩, ⟨none, .bad, none⟩, ⟨none, .mov (.v 4), none⟩, ⟨none, .call false f_internal_strconv_formatBase10 [(.r 2), (.r 3)], none⟩])
  (.seq (.seq (.region false [] [⟨none, .mov (.v 0), none⟩, ⟨some 10, .bin false .lss (.r 0) (.c (.int .i64 0)), none⟩])
  (.cond (.v 10) (.seq (.region false [] [⟨none, .bad, none⟩, ⟨none, .store 1 (.r 0) (.c (.int .u8 45)), none⟩])
  (.seq (.region false [] [⟨none, .mov (.v 5), none⟩, ⟨none, .bin false .add (.c (.int .i64 1)) (.r 0), none⟩, ⟨none, .bad, none⟩, ⟨none, .strb (.r 2), none⟩, ⟨some 2, .mov (.r 3), none⟩])
  .ret)) .skip))
  (.seq (.region false [] [⟨none, .mov (.v 5), none⟩, ⟨none, .bin false .add (.c (.int .i64 1)) (.r 0), none⟩, ⟨none, .bad, none⟩, ⟨none, .strb (.r 2), none⟩, ⟨some 2, .mov (.r 3), none⟩])
  .ret)))))))) .skip))
  (.seq (.region false [] [⟨none, .mov (.v 0), none⟩, ⟨none, .conv .u64 (.r 0), none⟩, ⟨none, .mov (.v 1), none⟩, ⟨none, .mov (.v 0), none⟩, ⟨none, .bin false .lss (.r 3) (.c (.int .i64 0)), none⟩, ⟨none, .call false f_internal_strconv_formatBits [(.c (.nil true 1)), (.r 1), (.r 2), (.r 4), (.c (.bool false))], none⟩, ⟨none, .mov (.r 5), none⟩, ⟨none, .extract (.r 6) 0, none⟩, ⟨none, .extract (.r 6) 1, none⟩, ⟨none, .mov (.r 7), none⟩, ⟨some 6, .mov (.r 8), none⟩])
  (.seq (.region false [] [⟨none, .mov (.v 6), none⟩, ⟨some 2, .mov (.r 0), none⟩])
  .ret)))),
  [.v 2]⟩
def ir_internal_strconv_Itoa : IFun := ⟨[0, 2],
  (.seq (.region false [] [⟨some 1, .mov (.c (.str ⟨#[]⟩)), none⟩])
  (.seq (.region false [] [⟨none, .mov (.v 0), none⟩, ⟨none, .call false f_internal_strconv_FormatInt [(.r 0), (.c (.int .i64 10))], none⟩, ⟨some 1, .mov (.r 1), none⟩])
  .ret)),
  [.v 1]⟩
def ir_strconv_Itoa : IFun := ⟨[0, 2],
  (.seq (.region false [] [⟨some 1, .mov (.c (.str ⟨#[]⟩)), none⟩])
  (.seq (.region false [] [⟨none, .mov (.v 0), none⟩, ⟨none, .call false f_internal_strconv_Itoa [(.r 0)], none⟩, ⟨some 1, .mov (.r 1), none⟩])
  .ret)),
  [.v 1]⟩
def ir_impl_treeText : IFun := ⟨[0, 1, 4, 5, 13],
  (.seq (.region false [] [⟨some 2, .mov (.c (.str ⟨#[]⟩)), none⟩])
  (.seq (.region false [] [⟨none, .mov (.v 0), none⟩, ⟨none, .mov (.v 1), none⟩, ⟨none, .iaddr 4 (.r 0) (.r 1), none⟩, ⟨none, .load true 4 (.r 2), none⟩, ⟨some 3, .alloc t_impl_treeNode [(.int .i64 0), (.int .i64 0), (.int .i64 0), (.int .i64 0)], none⟩, ⟨none, .store 4 (.v 3) (.r 3), none⟩])
  (.seq (.seq (.region false [] [⟨none, .faddr 0 (.v 3), none⟩, ⟨none, .faddr 0 (.r 0), none⟩, ⟨none, .load false 1 (.r 1), none⟩, ⟨some 4, .bin false .eql (.r 2) (.c (.int .i64 1)), none⟩])
  (.cond (.v 4) (.seq (.region false [] [⟨none, .faddr 0 (.v 3), none⟩, ⟨none, .faddr 1 (.r 0), none⟩, ⟨none, .load false 1 (.r 1), none⟩, ⟨none, .call false f_strconv_Itoa [(.r 2)], none⟩, ⟨some 2, .mov (.r 3), none⟩])
  .ret) .skip))
  (.seq (.region true [(14, 5), (14, 8), (14, 13), (17, 5), (17, 8)] [⟨none, .mov (.v 0), none⟩, ⟨none, .faddr 2 (.v 3), none⟩, ⟨none, .load false 1 (.r 1), none⟩, ⟨none, .faddr 0 (.v 3), none⟩, ⟨none, .faddr 0 (.r 3), none⟩, ⟨none, .load false 1 (.r 4), none⟩, ⟨none, .faddr 0 (.v 3), none⟩, ⟨none, .faddr 0 (.r 6), none⟩, ⟨none, .load false 1 (.r 7), none⟩, ⟨none, .bin false .add (.r 8) (.c (.int .i64 1)), none⟩, ⟨none, .sub (.c (.str ⟨#[32, 32, 59, 124, 38, 42]⟩)) (some (.r 5)) (some (.r 9)), none⟩, ⟨none, .mov (.v 0), none⟩, ⟨none, .faddr 3 (.v 3), none⟩, ⟨none, .load false 1 (.r 12), none⟩, ⟨none, .call false f_impl_treeText [(.r 0), (.r 2)], none⟩, ⟨none, .bin false .add (.c (.str ⟨#[40]⟩)) (.r 14), none⟩, ⟨none, .bin false .add (.r 15) (.r 10), none⟩, ⟨none, .call false f_impl_treeText [(.r 11), (.r 13)], none⟩, ⟨none, .bin false .add (.r 16) (.r 17), none⟩, ⟨none, .bin false .add (.r 18) (.c (.str ⟨#[41]⟩)), none⟩, ⟨some 2, .mov (.r 19), none⟩])
  .ret)))),
  [.v 2]⟩
def ir_impl_TreeText : IFun := ⟨[0, 2, 3, 6],
  (.seq (.region false [] [⟨some 1, .mov (.c (.str ⟨#[]⟩)), none⟩, ⟨some 2, .mov (.c (.bool false)), none⟩])
  (.seq (.seq (.region false [] [⟨none, .mov (.v 0), none⟩, ⟨none, .call false f_impl_isTree [(.r 0)], none⟩, ⟨some 3, .not (.r 1), none⟩])
  (.cond (.v 3) (.seq (.region false [] [⟨some 1, .mov (.c (.str ⟨#[]⟩)), none⟩, ⟨some 2, .mov (.c (.bool false)), none⟩])
  .ret) .skip))
  (.seq (.region false [] [⟨none, .mov (.v 0), none⟩, ⟨none, .call false f_impl_parsed [(.r 0)], none⟩, ⟨none, .mov (.v 0), none⟩, ⟨none, .len false (.r 2), none⟩, ⟨none, .bin false .sub (.r 3) (.c (.int .i64 1)), none⟩, ⟨none, .call false f_impl_treeText [(.r 1), (.r 4)], none⟩, ⟨some 1, .mov (.r 5), none⟩, ⟨some 2, .mov (.c (.bool true)), none⟩])
  .ret))),
  [.v 1, .v 2]⟩
def ir_laws_eqBranch : IFun := ⟨[0, 1, 2, 3, 4, 9, 14],
  (.seq (.region false [] [⟨some 2, .box t_impl_Branch 2 (.v 0), none⟩, ⟨some 3, .box t_impl_Branch 2 (.v 1), none⟩, ⟨some 4, .mov (.c (.bool false)), none⟩])
  (.seq (.seq (.region false [] [⟨none, .faddr 0 (.v 2), none⟩, ⟨none, .load false 1 (.r 0), none⟩, ⟨none, .faddr 0 (.v 3), none⟩, ⟨none, .load false 1 (.r 2), none⟩, ⟨some 5, .bin false .neq (.r 1) (.r 3), none⟩])
  (.cond (.v 5) (.seq (.region false [] [⟨some 4, .mov (.c (.bool false)), none⟩])
  .ret) .skip))
  (.seq (.seq (.region false [] [⟨none, .faddr 1 (.v 2), none⟩, ⟨none, .load false 1 (.r 0), none⟩, ⟨none, .faddr 1 (.v 3), none⟩, ⟨none, .load false 1 (.r 2), none⟩, ⟨some 6, .bin false .neq (.r 1) (.r 3), none⟩])
  (.cond (.v 6) (.seq (.region false [] [⟨some 4, .mov (.c (.bool false)), none⟩])
  .ret) .skip))
  (.seq (.region false [] [⟨some 4, .mov (.c (.bool true)), none⟩])
  .ret)))),
  [.v 4]⟩
def ir_laws_eqBranchS : IFun := ⟨[0, 1, 4, 5, 10, 14, 26],
  (.seq (.region false [] [⟨some 2, .mov (.c (.bool false)), none⟩])
  (.seq (.seq (.region false [] [⟨none, .mov (.v 0), none⟩, ⟨none, .len false (.r 0), none⟩, ⟨none, .mov (.v 1), none⟩, ⟨none, .len false (.r 2), none⟩, ⟨some 4, .bin false .neq (.r 1) (.r 3), none⟩])
  (.cond (.v 4) (.seq (.region false [] [⟨some 2, .mov (.c (.bool false)), none⟩])
  .ret) .skip))
  (.seq (.seq (.region false [] [⟨some 3, .mov (.c (.int .i64 0)), none⟩])
  (.block 0 (.loop [true, true, false, true, false, false, false] (.seq (.seq (.region false [] [⟨none, .mov (.v 3), none⟩, ⟨none, .mov (.v 0), none⟩, ⟨none, .len false (.r 1), none⟩, ⟨some 5, .bin false .lss (.r 0) (.r 2), none⟩])
  (.cond (.v 5) .skip (.exit 0)))
  (.seq (.block 1 (.seq (.region true [] [⟨none, .mov (.v 0), none⟩, ⟨none, .mov (.v 3), none⟩, ⟨none, .iaddr 2 (.r 0) (.r 1), none⟩, ⟨none, .load true 2 (.r 2), none⟩, ⟨none, .mov (.v 1), none⟩, ⟨none, .mov (.v 3), none⟩, ⟨none, .iaddr 2 (.r 4) (.r 5), none⟩, ⟨none, .load true 2 (.r 6), none⟩, ⟨none, .call false f_laws_eqBranch [(.r 3), (.r 7)], none⟩, ⟨some 6, .not (.r 8), none⟩])
  (.cond (.v 6) (.seq (.region false [] [⟨some 2, .mov (.c (.bool false)), none⟩])
  .ret) .skip)))
  (.region false [] [⟨none, .mov (.v 3), none⟩, ⟨none, .bin false .add (.r 0) (.c (.int .i64 1)), none⟩, ⟨some 3, .mov (.r 1), none⟩]))))))
  (.seq (.region false [] [⟨some 2, .mov (.c (.bool true)), none⟩])
  .ret)))),
  [.v 2]⟩
def ir_laws_FnExactTreeText : IFun := ⟨[0, 2, 3, 4, 5, 6, 7, 8, 13, 34, 39],
  (.seq (.region false [] [⟨some 1, .mov (.c (.bool false)), none⟩])
  (.seq (.region false [] [⟨some 2, .mov (.c (.int .i64 1048576)), none⟩])
  (.seq (.region false [] [⟨none, .mov (.v 0), none⟩, ⟨none, .mov (.v 2), none⟩, ⟨none, .call false f_laws_szBranchS [(.r 0), (.r 1)], none⟩, ⟨some 2, .mov (.r 2), none⟩])
  (.seq (.seq (.region false [] [⟨none, .mov (.v 2), none⟩, ⟨some 8, .bin false .lss (.r 0) (.c (.int .i64 0)), none⟩])
  (.cond (.v 8) (.seq (.region false [] [⟨some 1, .mov (.c (.bool true)), none⟩])
  .ret) .skip))
  (.seq (.region false [] [⟨none, .mov (.v 0), none⟩, ⟨none, .call false f_laws_toBranchS [(.r 0)], none⟩, ⟨none, .call false f_spec_TreeText [(.r 1)], none⟩, ⟨none, .mov (.r 2), none⟩, ⟨none, .extract (.r 3) 0, none⟩, ⟨none, .extract (.r 3) 1, none⟩, ⟨some 3, .mov (.r 4), none⟩, ⟨some 4, .mov (.r 5), none⟩])
  (.seq (.region false [] [⟨none, .mov (.v 0), none⟩, ⟨none, .call false f_laws_toBranchS [(.r 0)], none⟩, ⟨some 5, .mov (.r 1), none⟩])
  (.seq (.region false [] [⟨none, .mov (.v 5), none⟩, ⟨none, .call false f_impl_TreeText [(.r 0)], none⟩, ⟨none, .mov (.r 1), none⟩, ⟨none, .extract (.r 2) 0, none⟩, ⟨none, .extract (.r 2) 1, none⟩, ⟨some 6, .mov (.r 3), none⟩, ⟨some 7, .mov (.r 4), none⟩])
  (.seq (.seq (.region false [] [⟨none, .mov (.v 6), none⟩, ⟨none, .mov (.v 3), none⟩, ⟨none, .bin false .neq (.r 0) (.r 1), none⟩, ⟨none, .mov (.r 2), none⟩, ⟨none, .mov (.v 7), some (3, false)⟩, ⟨none, .mov (.v 4), some (3, false)⟩, ⟨none, .bin true .neq (.r 4) (.r 5), some (3, false)⟩, ⟨some 9, .pick (.r 3) (.c (.bool true)) (.r 6), none⟩])
  (.cond (.v 9) (.seq (.region false [] [⟨some 1, .mov (.c (.bool false)), none⟩])
  .ret) .skip))
  (.seq (.seq (.region false [] [⟨none, .mov (.v 5), none⟩, ⟨none, .mov (.v 0), none⟩, ⟨none, .call false f_laws_toBranchS [(.r 1)], none⟩, ⟨none, .call false f_laws_eqBranchS [(.r 0), (.r 2)], none⟩, ⟨some 10, .not (.r 3), none⟩])
  (.cond (.v 10) (.seq (.region false [] [⟨some 1, .mov (.c (.bool false)), none⟩])
  .ret) .skip))
  (.seq (.region false [] [⟨some 1, .mov (.c (.bool true)), none⟩])
  .ret)))))))))),
  [.v 1]⟩
def tbl : List (FuncId × IFun) := [(f_laws_szBranchS, ir_laws_szBranchS), (f_laws_toBranch, ir_laws_toBranch), (f_laws_toBranchS, ir_laws_toBranchS), (f_spec_l1In, ir_spec_l1In), (f_spec_l11Good, ir_spec_l11Good), (f_spec_l1Num, ir_spec_l1Num), (f_spec_l11First, ir_spec_l11First), (f_spec_l11Text, ir_spec_l11Text), (f_spec_TreeText, ir_spec_TreeText), (f_impl_within, ir_impl_within), (f_impl_isTree, ir_impl_isTree), (f_impl_parsed, ir_impl_parsed), (f_internal_strconv_small, ir_internal_strconv_small), (f_math_bits_Len64, ir_math_bits_Len64), (f_internal_strconv_log10Pow2, ir_internal_strconv_log10Pow2), (f_internal_strconv_bool2_int, ir_internal_strconv_bool2_int), (f_internal_strconv_numDigits, ir_internal_strconv_numDigits), (f_internal_strconv_formatBase10, ir_internal_strconv_formatBase10), (f_internal_strconv_isPowerOfTwo, ir_internal_strconv_isPowerOfTwo), (f_math_bits_TrailingZeros32, ir_math_bits_TrailingZeros32), (f_math_bits_TrailingZeros64, ir_math_bits_TrailingZeros64), (f_math_bits_TrailingZeros, ir_math_bits_TrailingZeros), (f_internal_strconv_formatBits, ir_internal_strconv_formatBits), (f_internal_strconv_FormatInt, ir_internal_strconv_FormatInt), (f_internal_strconv_Itoa, ir_internal_strconv_Itoa), (f_strconv_Itoa, ir_strconv_Itoa), (f_impl_treeText, ir_impl_treeText), (f_impl_TreeText, ir_impl_TreeText), (f_laws_eqBranch, ir_laws_eqBranch), (f_laws_eqBranchS, ir_laws_eqBranchS), (f_laws_FnExactTreeText, ir_laws_FnExactTreeText)]
def F (f : FuncId) : Option IFun := (tbl.find? fun p => p.1 == f).map (·.2)
def exts : List (FuncId × (List PV → Option PV)) := []
def ext (f : FuncId) : Option (List PV → Option PV) := (exts.find? fun p => p.1 == f).map (·.2)
noncomputable def C : Orc := lim F ext
theorem C_laws_szBranchS {args : List PV} {M : List Blk} {r : PV × List Blk} (h : W C M.length ir_laws_szBranchS.body ⟨start ir_laws_szBranchS args, M⟩ (Lv M.length ir_laws_szBranchS.results r)) : C f_laws_szBranchS args M = some r := call_of rfl rfl h
theorem C_laws_toBranch {args : List PV} {M : List Blk} {r : PV × List Blk} (h : W C M.length ir_laws_toBranch.body ⟨start ir_laws_toBranch args, M⟩ (Lv M.length ir_laws_toBranch.results r)) : C f_laws_toBranch args M = some r := call_of rfl rfl h
theorem C_laws_toBranchS {args : List PV} {M : List Blk} {r : PV × List Blk} (h : W C M.length ir_laws_toBranchS.body ⟨start ir_laws_toBranchS args, M⟩ (Lv M.length ir_laws_toBranchS.results r)) : C f_laws_toBranchS args M = some r := call_of rfl rfl h
theorem C_spec_l1In {args : List PV} {M : List Blk} {r : PV × List Blk} (h : W C M.length ir_spec_l1In.body ⟨start ir_spec_l1In args, M⟩ (Lv M.length ir_spec_l1In.results r)) : C f_spec_l1In args M = some r := call_of rfl rfl h
theorem C_spec_l11Good {args : List PV} {M : List Blk} {r : PV × List Blk} (h : W C M.length ir_spec_l11Good.body ⟨start ir_spec_l11Good args, M⟩ (Lv M.length ir_spec_l11Good.results r)) : C f_spec_l11Good args M = some r := call_of rfl rfl h
theorem C_spec_l1Num {args : List PV} {M : List Blk} {r : PV × List Blk} (h : W C M.length ir_spec_l1Num.body ⟨start ir_spec_l1Num args, M⟩ (Lv M.length ir_spec_l1Num.results r)) : C f_spec_l1Num args M = some r := call_of rfl rfl h
theorem C_spec_l11First {args : List PV} {M : List Blk} {r : PV × List Blk} (h : W C M.length ir_spec_l11First.body ⟨start ir_spec_l11First args, M⟩ (Lv M.length ir_spec_l11First.results r)) : C f_spec_l11First args M = some r := call_of rfl rfl h
theorem C_spec_l11Text {args : List PV} {M : List Blk} {r : PV × List Blk} (h : W C M.length ir_spec_l11Text.body ⟨start ir_spec_l11Text args, M⟩ (Lv M.length ir_spec_l11Text.results r)) : C f_spec_l11Text args M = some r := call_of rfl rfl h
theorem C_spec_TreeText {args : List PV} {M : List Blk} {r : PV × List Blk} (h : W C M.length ir_spec_TreeText.body ⟨start ir_spec_TreeText args, M⟩ (Lv M.length ir_spec_TreeText.results r)) : C f_spec_TreeText args M = some r := call_of rfl rfl h
theorem C_impl_within {args : List PV} {M : List Blk} {r : PV × List Blk} (h : W C M.length ir_impl_within.body ⟨start ir_impl_within args, M⟩ (Lv M.length ir_impl_within.results r)) : C f_impl_within args M = some r := call_of rfl rfl h
theorem C_impl_isTree {args : List PV} {M : List Blk} {r : PV × List Blk} (h : W C M.length ir_impl_isTree.body ⟨start ir_impl_isTree args, M⟩ (Lv M.length ir_impl_isTree.results r)) : C f_impl_isTree args M = some r := call_of rfl rfl h
theorem C_impl_parsed {args : List PV} {M : List Blk} {r : PV × List Blk} (h : W C M.length ir_impl_parsed.body ⟨start ir_impl_parsed args, M⟩ (Lv M.length ir_impl_parsed.results r)) : C f_impl_parsed args M = some r := call_of rfl rfl h
theorem C_internal_strconv_small {args : List PV} {M : List Blk} {r : PV × List Blk} (h : W C M.length ir_internal_strconv_small.body ⟨start ir_internal_strconv_small args, M⟩ (Lv M.length ir_internal_strconv_small.results r)) : C f_internal_strconv_small args M = some r := call_of rfl rfl h
theorem C_math_bits_Len64 {args : List PV} {M : List Blk} {r : PV × List Blk} (h : W C M.length ir_math_bits_Len64.body ⟨start ir_math_bits_Len64 args, M⟩ (Lv M.length ir_math_bits_Len64.results r)) : C f_math_bits_Len64 args M = some r := call_of rfl rfl h
theorem C_internal_strconv_log10Pow2 {args : List PV} {M : List Blk} {r : PV × List Blk} (h : W C M.length ir_internal_strconv_log10Pow2.body ⟨start ir_internal_strconv_log10Pow2 args, M⟩ (Lv M.length ir_internal_strconv_log10Pow2.results r)) : C f_internal_strconv_log10Pow2 args M = some r := call_of rfl rfl h
theorem C_internal_strconv_bool2_int {args : List PV} {M : List Blk} {r : PV × List Blk} (h : W C M.length ir_internal_strconv_bool2_int.body ⟨start ir_internal_strconv_bool2_int args, M⟩ (Lv M.length ir_internal_strconv_bool2_int.results r)) : C f_internal_strconv_bool2_int args M = some r := call_of rfl rfl h
theorem C_internal_strconv_numDigits {args : List PV} {M : List Blk} {r : PV × List Blk} (h : W C M.length ir_internal_strconv_numDigits.body ⟨start ir_internal_strconv_numDigits args, M⟩ (Lv M.length ir_internal_strconv_numDigits.results r)) : C f_internal_strconv_numDigits args M = some r := call_of rfl rfl h
theorem C_internal_strconv_formatBase10 {args : List PV} {M : List Blk} {r : PV × List Blk} (h : W C M.length ir_internal_strconv_formatBase10.body ⟨start ir_internal_strconv_formatBase10 args, M⟩ (Lv M.length ir_internal_strconv_formatBase10.results r)) : C f_internal_strconv_formatBase10 args M = some r := call_of rfl rfl h
theorem C_internal_strconv_isPowerOfTwo {args : List PV} {M : List Blk} {r : PV × List Blk} (h : W C M.length ir_internal_strconv_isPowerOfTwo.body ⟨start ir_internal_strconv_isPowerOfTwo args, M⟩ (Lv M.length ir_internal_strconv_isPowerOfTwo.results r)) : C f_internal_strconv_isPowerOfTwo args M = some r := call_of rfl rfl h
theorem C_math_bits_TrailingZeros32 {args : List PV} {M : List Blk} {r : PV × List Blk} (h : W C M.length ir_math_bits_TrailingZeros32.body ⟨start ir_math_bits_TrailingZeros32 args, M⟩ (Lv M.length ir_math_bits_TrailingZeros32.results r)) : C f_math_bits_TrailingZeros32 args M = some r := call_of rfl rfl h
theorem C_math_bits_TrailingZeros64 {args : List PV} {M : List Blk} {r : PV × List Blk} (h : W C M.length ir_math_bits_TrailingZeros64.body ⟨start ir_math_bits_TrailingZeros64 args, M⟩ (Lv M.length ir_math_bits_TrailingZeros64.results r)) : C f_math_bits_TrailingZeros64 args M = some r := call_of rfl rfl h
theorem C_math_bits_TrailingZeros {args : List PV} {M : List Blk} {r : PV × List Blk} (h : W C M.length ir_math_bits_TrailingZeros.body ⟨start ir_math_bits_TrailingZeros args, M⟩ (Lv M.length ir_math_bits_TrailingZeros.results r)) : C f_math_bits_TrailingZeros args M = some r := call_of rfl rfl h
theorem C_internal_strconv_formatBits {args : List PV} {M : List Blk} {r : PV × List Blk} (h : W C M.length ir_internal_strconv_formatBits.body ⟨start ir_internal_strconv_formatBits args, M⟩ (Lv M.length ir_internal_strconv_formatBits.results r)) : C f_internal_strconv_formatBits args M = some r := call_of rfl rfl h
theorem C_internal_strconv_FormatInt {args : List PV} {M : List Blk} {r : PV × List Blk} (h : W C M.length ir_internal_strconv_FormatInt.body ⟨start ir_internal_strconv_FormatInt args, M⟩ (Lv M.length ir_internal_strconv_FormatInt.results r)) : C f_internal_strconv_FormatInt args M = some r := call_of rfl rfl h
theorem C_internal_strconv_Itoa {args : List PV} {M : List Blk} {r : PV × List Blk} (h : W C M.length ir_internal_strconv_Itoa.body ⟨start ir_internal_strconv_Itoa args, M⟩ (Lv M.length ir_internal_strconv_Itoa.results r)) : C f_internal_strconv_Itoa args M = some r := call_of rfl rfl h
theorem C_strconv_Itoa {args : List PV} {M : List Blk} {r : PV × List Blk} (h : W C M.length ir_strconv_Itoa.body ⟨start ir_strconv_Itoa args, M⟩ (Lv M.length ir_strconv_Itoa.results r)) : C f_strconv_Itoa args M = some r := call_of rfl rfl h
theorem C_impl_treeText {args : List PV} {M : List Blk} {r : PV × List Blk} (h : W C M.length ir_impl_treeText.body ⟨start ir_impl_treeText args, M⟩ (Lv M.length ir_impl_treeText.results r)) : C f_impl_treeText args M = some r := call_of rfl rfl h
theorem C_impl_TreeText {args : List PV} {M : List Blk} {r : PV × List Blk} (h : W C M.length ir_impl_TreeText.body ⟨start ir_impl_TreeText args, M⟩ (Lv M.length ir_impl_TreeText.results r)) : C f_impl_TreeText args M = some r := call_of rfl rfl h
theorem C_laws_eqBranch {args : List PV} {M : List Blk} {r : PV × List Blk} (h : W C M.length ir_laws_eqBranch.body ⟨start ir_laws_eqBranch args, M⟩ (Lv M.length ir_laws_eqBranch.results r)) : C f_laws_eqBranch args M = some r := call_of rfl rfl h
theorem C_laws_eqBranchS {args : List PV} {M : List Blk} {r : PV × List Blk} (h : W C M.length ir_laws_eqBranchS.body ⟨start ir_laws_eqBranchS args, M⟩ (Lv M.length ir_laws_eqBranchS.results r)) : C f_laws_eqBranchS args M = some r := call_of rfl rfl h
theorem C_laws_FnExactTreeText {args : List PV} {M : List Blk} {r : PV × List Blk} (h : W C M.length ir_laws_FnExactTreeText.body ⟨start ir_laws_FnExactTreeText args, M⟩ (Lv M.length ir_laws_FnExactTreeText.results r)) : C f_laws_FnExactTreeText args M = some r := call_of rfl rfl h
end Go.Proofs.YtoimodnlefadhaaDoor.Pi
