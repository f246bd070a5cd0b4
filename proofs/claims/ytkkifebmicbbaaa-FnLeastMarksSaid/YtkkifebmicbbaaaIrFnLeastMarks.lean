/- The forms of the functions that the law reaches, and their oracle. Definitions alone; no condition. -/
import Derived.Test.YtkkifebmicbbaaaPiExt
namespace Go.Proofs.Ytkkifebmicbbaaa.Pi
open Go
set_option linter.all false
abbrev t_int : TypeId := 3
abbrev w8t : TypeId := 48
abbrev w8v : TypeId := 121
abbrev w8u : TypeId := 223
abbrev w3x : FuncId := 34
abbrev w51 : FuncId := 184
abbrev w53 : FuncId := 105
abbrev w4z : FuncId := 104
abbrev w52 : FuncId := 107
abbrev w50 : FuncId := 106
abbrev w4t : FuncId := 45
abbrev w3v : FuncId := 108
abbrev w3q : FuncId := 163
abbrev w3o : FuncId := 87
abbrev w3s : FuncId := 186
abbrev w49 : FuncId := 164
abbrev w47 : FuncId := 185
abbrev w3r : FuncId := 109
abbrev w44 : FuncId := 187
abbrev w41 : FuncId := 235
abbrev w42 : FuncId := 236
abbrev w40 : FuncId := 197
abbrev w4e : FuncId := 227
abbrev w4o : FuncId := 241
abbrev w4d : FuncId := 228
abbrev w4h : FuncId := 242
abbrev w4p : FuncId := 243
abbrev w4b : FuncId := 229
abbrev w4i : FuncId := 246
abbrev w4g : FuncId := 245
abbrev w4f : FuncId := 244
abbrev w4c : FuncId := 230
abbrev w4n : FuncId := 231
abbrev w4j : FuncId := 232
abbrev w4l : FuncId := 233
abbrev w4k : FuncId := 234
abbrev w4m : FuncId := 196
abbrev w4a : FuncId := 126
abbrev w3l : FuncId := 224
abbrev w3k : FuncId := 190
abbrev w46 : FuncId := 114
abbrev w45 : FuncId := 188
abbrev w48 : FuncId := 160
abbrev w3t : FuncId := 113
abbrev w43 : FuncId := 102
abbrev w3u : FuncId := 110
abbrev w3p : FuncId := 46
abbrev w55 : FuncId := 71
abbrev w59 : FuncId := 111
abbrev w4w : FuncId := 168
abbrev w4u : FuncId := 92
abbrev w4y : FuncId := 189
abbrev w5a : FuncId := 169
abbrev w58 : FuncId := 122
abbrev w4x : FuncId := 117
abbrev w56 : FuncId := 121
abbrev w57 : FuncId := 112
abbrev w4v : FuncId := 47
abbrev w3y : FuncId := 43
abbrev w3z : FuncId := 48
abbrev w3n : FuncId := 49
abbrev w3m : FuncId := 50
abbrev w54 : FuncId := 191
abbrev w4r : FuncId := 115
abbrev w4s : FuncId := 51
abbrev w5b : FuncId := 116
abbrev w4q : FuncId := 52
abbrev w3w : FuncId := 9
def w3i : List PV → Option PV := zdt w8t false 1
def w3h : List PV → Option PV := zdt t_int true 1
@[go_sem] abbrev jn (o : IOp) : IOper := ⟨none, o, none⟩
@[go_sem] abbrev js (k : Nat) (o : IOp) : IOper := ⟨some k, o, none⟩
@[go_sem] abbrev jt (j : Nat) (o : IOp) : IOper := ⟨none, o, some (j, true)⟩
@[go_sem] abbrev jf (j : Nat) (o : IOp) : IOper := ⟨none, o, some (j, false)⟩
@[go_sem] abbrev jr (l : List IOper) : ICode := .region false [] l
@[go_sem] abbrev jc (n : Int) : Opd := .c (.int .i64 n)
def w5z : IFun := ⟨[0, 1, 4],
  (.seq (jr [js 2 (.mov (.c (.bool false)))])
  (.seq (jr [jn (.mov (.v 0)), jn (.len false (.r 0)), jn (.bin false .gtr (.r 1) (jc 1048576)), jn (.mov (.r 2)), jf 3 (.mov (.v 1)), jf 3 (.len false (.r 4)), jf 3 (.mov (.v 0)), jf 3 (.len false (.r 6)), jf 3 (.bin false .sub (jc 1048576) (.r 7)), jf 3 (.bin false .gtr (.r 5) (.r 8)), jn (.pick (.r 3) (.c (.bool true)) (.r 9)), js 2 (.mov (.r 10))])
  .ret)),
  [.v 2]⟩
def w71 : IFun := ⟨[0, 2, 3, 13, 53],
  (.seq (jr [js 1 (.mov (jc 0))])
  (.seq (jr [js 2 (.mov (jc 0))])
  (.seq (.seq (.region true [] [jn (.mov (.v 0)), jn (.ncheck (.r 0)), jn (.faddr 1 (.r 1)), jn (.load false 1 (.r 2)), jn (.mov (.v 0)), jn (.ncheck (.r 4)), jn (.faddr 0 (.r 5)), jn (.load false 1 (.r 6)), jn (.len false (.r 7)), js 3 (.bin false .lss (.r 3) (.r 8))])
  (.cond (.v 3) (.region true [] [jn (.mov (.v 0)), jn (.ncheck (.r 0)), jn (.faddr 0 (.r 1)), jn (.load false 1 (.r 2)), jn (.mov (.v 0)), jn (.ncheck (.r 4)), jn (.faddr 1 (.r 5)), jn (.load false 1 (.r 6)), jn (.iaddr 1 (.r 3) (.r 7)), jn (.load false 1 (.r 8)), jn (.conv .i64 (.r 9)), js 2 (.mov (.r 10))]) .skip))
  (.seq (jr [jn (.mov (.v 0)), jn (.ncheck (.r 0)), jn (.faddr 1 (.r 1)), jn (.load false 1 (.r 2)), jn (.bin false .add (.r 3) (jc 1)), jn (.ncheck (.r 0)), jn (.faddr 1 (.r 5)), jn (.store 1 (.r 6) (.r 4))])
  (.seq (jr [jn (.mov (.v 0)), jn (.mov (.v 0)), jn (.ncheck (.r 1)), jn (.faddr 2 (.r 2)), jn (.load false 1 (.r 3)), jn (.bin false .mul (.r 4) (.c (.int .u64 6364136223846793005))), jn (.mov (.v 2)), jn (.conv .u64 (.r 6)), jn (.bin false .add (.r 5) (.r 7)), jn (.bin false .add (.r 8) (.c (.int .u64 1442695040888963407))), jn (.ncheck (.r 0)), jn (.faddr 2 (.r 10)), jn (.store 1 (.r 11) (.r 9))])
  (.seq (.seq (.region true [] [jn (.mov (.v 0)), jn (.ncheck (.r 0)), jn (.faddr 1 (.r 1)), jn (.load false 1 (.r 2)), jn (.mov (.v 0)), jn (.ncheck (.r 4)), jn (.faddr 0 (.r 5)), jn (.load false 1 (.r 6)), jn (.len false (.r 7)), js 4 (.bin false .leq (.r 3) (.r 8))])
  (.cond (.v 4) (.seq (jr [jn (.mov (.v 2)), js 1 (.mov (.r 0))])
  .ret) .skip))
  (.seq (jr [jn (.mov (.v 0)), jn (.ncheck (.r 0)), jn (.faddr 2 (.r 1)), jn (.load false 1 (.r 2)), jn (.bin false .shr (.r 3) (.c (.int .u64 40))), jn (.bin false .and (.r 4) (.c (.int .u64 255))), jn (.conv .i64 (.r 5)), js 1 (.mov (.r 6))])
  .ret))))))),
  [.v 1]⟩
def w73 : IFun := ⟨[0, 1, 4, 5, 7, 11],
  (.seq (jr [js 2 (.mov (jc 0))])
  (.seq (.seq (jr [jn (.mov (.v 1)), js 4 (.bin false .leq (.r 0) (jc 1))])
  (.cond (.v 4) (.seq (jr [js 2 (.mov (jc 0))])
  .ret) .skip))
  (.seq (jr [jn (.mov (.v 0)), jn (.callm w51 [(.r 0)]), js 3 (.mov (.r 1))])
  (.seq (.seq (jr [jn (.mov (.v 1)), js 5 (.bin false .gtr (.r 0) (jc 200))])
  (.cond (.v 5) (jr [jn (.mov (.v 3)), jn (.bin false .mul (.r 0) (jc 256)), jn (.mov (.v 0)), jn (.callm w51 [(.r 2)]), jn (.bin false .add (.r 1) (.r 3)), js 3 (.mov (.r 4))]) .skip))
  (.seq (jr [jn (.mov (.v 3)), jn (.mov (.v 1)), jn (.bin false .rem (.r 0) (.r 1)), js 2 (.mov (.r 2))])
  .ret))))),
  [.v 2]⟩
def w6z : IFun := ⟨[0, 1, 4],
  (.seq (jr [js 2 (.mov (jc 0))])
  (.seq (jr [jn (.mov (.v 1)), jn (.mov (.v 0)), jn (.mov (.v 1)), jn (.len false (.r 2)), jn (.callm w53 [(.r 1), (.r 3)]), jn (.iaddr 1 (.r 0) (.r 4)), jn (.load false 1 (.r 5)), js 2 (.mov (.r 6))])
  .ret)),
  [.v 2]⟩
def w72 : IFun := ⟨[0, 1, 4],
  (.seq (jr [js 2 (.mov (.c (.bool false)))])
  (.seq (jr [jn (.mov (.v 0)), jn (.mov (.v 1)), jn (.callm w53 [(.r 0), (.r 1)]), jn (.bin false .eql (.r 2) (jc 0)), js 2 (.mov (.r 3))])
  .ret)),
  [.v 2]⟩
def w70 : IFun := ⟨[0, 1, 4, 5, 6, 7, 10, 16, 25],
  (.seq (jr [js 2 (.nilrow t_int true 1)])
  (.seq (jr [js 3 (.nilrow t_int true 1)])
  (.seq (.seq (jr [js 4 (.mov (jc 0))])
  (.block 0 (.loop [true, true, false, true, true, false, false, false, false] (.seq (.seq (jr [jn (.mov (.v 4)), jn (.mov (.v 1)), js 6 (.bin false .lss (.r 0) (.r 1))])
  (.cond (.v 6) .skip (.exit 0)))
  (.seq (.block 1 (.seq (jr [jn (.mov (.v 0)), jn (.callm w53 [(.r 0), (jc 3)]), js 5 (.mov (.r 1))])
  (.seq (.seq (jr [jn (.mov (.v 0)), js 7 (.callm w52 [(.r 0), (jc 12)])])
  (.cond (.v 7) (jr [jn (.mov (.v 0)), jn (.bslice false t_int true 1 [(jc 49), (jc 50), (jc 51)]), jn (.callm w4z [(.r 0), (.r 1)]), js 5 (.mov (.r 2))]) .skip))
  (jr [jn (.mov (.v 3)), jn (.mov (.v 5)), jn (.bslice false t_int true 1 [(.r 1)]), jn (.append t_int true 1 (.r 0) (.r 2)), js 3 (.mov (.r 3))]))))
  (jr [jn (.mov (.v 4)), jn (.bin false .add (.r 0) (jc 1)), js 4 (.mov (.r 1))]))))))
  (.seq (.seq (jr [jn (.mov (.v 0)), js 8 (.callm w52 [(.r 0), (jc 40)])])
  (.cond (.v 8) (jr [jn (.mov (.v 3)), jn (.bslice false t_int true 1 [(jc 0)]), jn (.append t_int true 1 (.r 0) (.r 1)), js 3 (.mov (.r 2))]) .skip))
  (.seq (jr [jn (.mov (.v 3)), js 2 (.mov (.r 0))])
  .ret))))),
  [.v 2]⟩
def w6t : IFun := ⟨[0, 2, 3, 4, 5, 6, 7, 17, 32],
  (.seq (jr [js 1 (.mov (jc 0)), js 2 (.nilrow w8t false 1)])
  (.seq (jr [jn (.mov (.v 0)), jn (.build [(.nil true 1), (.int .i64 0), (.int .u64 0)] [(0, 1, (.r 0))]), jn (.box w8v 3 (.r 1)), js 3 (.mov (.r 2))])
  (.seq (jr [jn (.mov (.v 3)), jn (.bslice false t_int true 1 [(jc 1), (jc 2), (jc 2), (jc 3), (jc 4)]), jn (.callm w4z [(.r 0), (.r 1)]), js 4 (.mov (.r 2))])
  (.seq (jr [js 5 (.nilrow w8t false 1)])
  (.seq (.seq (jr [jn (.mov (.v 3)), jn (.callm w53 [(.r 0), (jc 7)]), js 6 (.mov (.r 1))])
  (.block 0 (.loop [false, false, false, true, true, true, true, false, false] (.seq (.seq (jr [jn (.mov (.v 6)), js 7 (.bin false .gtr (.r 0) (jc 0))])
  (.cond (.v 7) .skip (.exit 0)))
  (.seq (.block 1 (jr [jn (.mov (.v 5)), jn (.mov (.v 3)), jn (.mov (.v 4)), jn (.callm w50 [(.r 1), (.r 2)]), jn (.bslice false w8t false 1 [(.r 3)]), jn (.append w8t false 1 (.r 0) (.r 4)), js 5 (.mov (.r 5))]))
  (jr [jn (.mov (.v 6)), jn (.bin false .sub (.r 0) (jc 1)), js 6 (.mov (.r 1))]))))))
  (.seq (.seq (jr [jn (.mov (.v 5)), jn (.len false (.r 0)), jn (.bin false .gtr (.r 1) (jc 0)), jn (.mov (.r 2)), jt 3 (.mov (.v 3)), jt 3 (.callm w52 [(.r 4), (jc 3)]), js 8 (.pick (.r 3) (.r 5) (.c (.bool false)))])
  (.cond (.v 8) (jr [jn (.mov (.v 5)), jn (.mov (.v 5)), jn (.iaddr 1 (.r 1) (jc 0)), jn (.load false 1 (.r 2)), jn (.bslice false w8t false 1 [(.r 3)]), jn (.append w8t false 1 (.r 0) (.r 4)), js 5 (.mov (.r 5))]) .skip))
  (.seq (jr [jn (.mov (.v 4)), jn (.mov (.v 5)), js 1 (.mov (.r 0)), js 2 (.mov (.r 1))])
  .ret))))))),
  [.v 1, .v 2]⟩
def w5x : IFun := ⟨[0, 1, 2, 6],
  (.seq (jr [js 3 (.mov (.c (.bool false)))])
  (.seq (jr [jn (.mov (.v 0)), jn (.mov (.v 1)), jn (.bin false .geq (.r 0) (.r 1)), jn (.mov (.r 2)), jt 3 (.mov (.v 0)), jt 3 (.mov (.v 2)), jt 3 (.bin false .leq (.r 4) (.r 5)), jn (.pick (.r 3) (.r 6) (.c (.bool false))), js 3 (.mov (.r 7))])
  .ret)),
  [.v 3]⟩
def w5s : IFun := ⟨[0, 1, 2, 6, 8, 9, 10, 11, 12, 19],
  (.seq (jr [js 3 (.mov (.c (.bool false)))])
  (.seq (.seq (jr [js 5 (.mov (.v 0)), js 6 (.len false (.v 5)), js 7 (.mov (jc 0))])
  (.block 0 (.loop [false, true, true, false, false, true, true, true, false, false] (.seq (jr [js 8 (.bin false .lss (.v 7) (.v 6))])
  (.seq (.cond (.v 8) .skip (.exit 0))
  (.seq (.block 1 (.seq (jr [jn (.iaddr 1 (.v 5) (.v 7)), jn (.load false 1 (.r 0)), js 4 (.mov (.r 1))])
  (.seq (jr [jn (.mov (.v 4)), jn (.mov (.v 1)), jn (.mov (.v 2)), jn (.call false w3v [(.r 0), (.r 1), (.r 2)]), js 9 (.not (.r 3))])
  (.cond (.v 9) (.seq (jr [js 3 (.mov (.c (.bool false)))])
  .ret) .skip))))
  (jr [jn (.bin false .add (.v 7) (jc 1)), js 7 (.mov (.r 0))])))))))
  (.seq (jr [js 3 (.mov (.c (.bool true)))])
  .ret))),
  [.v 3]⟩
def w5q : IFun := ⟨[0, 1, 4],
  (.seq (jr [js 2 (.mov (.c (.bool false)))])
  (.seq (jr [jn (.mov (.v 0)), jn (.call false w3v [(.r 0), (jc 1), (jc 16)]), jn (.mov (.r 1)), jt 2 (.mov (.v 1)), jt 2 (.len false (.r 3)), jt 2 (.mov (.v 0)), jt 2 (.bin false .eql (.r 4) (.r 5)), jn (.pick (.r 2) (.r 6) (.c (.bool false))), jn (.mov (.r 7)), jt 8 (.mov (.v 1)), jt 8 (.call false w3q [(.r 9), (jc 0), (jc 50)]), jn (.pick (.r 8) (.r 10) (.c (.bool false))), js 2 (.mov (.r 11))])
  .ret)),
  [.v 2]⟩
def w5u : IFun := ⟨[0, 1, 3],
  (.seq (jr [js 2 (.mov (.c (.bool false)))])
  (.seq (jr [jn (.load false 1 (.v 1)), jn (.mov (.v 0)), jn (.call false w3o [(.r 0), (.r 1)]), jn (.not (.r 2)), js 2 (.mov (.r 3))])
  .ret)),
  [.v 2]⟩
def w69 : IFun := ⟨[0, 1, 4, 5, 7, 8, 9, 16],
  (.seq (jr [js 2 (.mov (jc 0))])
  (.seq (.seq (jr [jn (.mov (.v 0)), js 4 (.len false (.r 0)), js 5 (.mov (jc 0))])
  (.block 0 (.loop [true, true, false, false, true, true, false, false] (.seq (jr [js 6 (.bin false .lss (.v 5) (.v 4))])
  (.seq (.cond (.v 6) .skip (.exit 0))
  (.seq (.block 1 (.seq (jr [jn (.mov (.v 5)), js 3 (.mov (.r 0))])
  (.seq (jr [jn (.mov (.v 1)), jn (.mov (.v 0)), jn (.mov (.v 3)), jn (.iaddr 1 (.r 1) (.r 2)), jn (.load false 1 (.r 3)), js 7 (.callv false (.r 0) [(.r 4)])])
  (.cond (.v 7) (.seq (jr [jn (.mov (.v 3)), js 2 (.mov (.r 0))])
  .ret) .skip))))
  (jr [jn (.bin false .add (.v 5) (jc 1)), js 5 (.mov (.r 0))])))))))
  (.seq (jr [js 2 (.mov (jc (-1)))])
  .ret))),
  [.v 2]⟩
def w67 : IFun := ⟨[0, 1, 4],
  (.seq (jr [js 2 (.mov (.c (.bool false)))])
  (.seq (jr [jn (.mov (.v 0)), jn (.mov (.v 1)), jn (.call false w49 [(.r 0), (.r 1)]), jn (.bin false .geq (.r 2) (jc 0)), js 2 (.mov (.r 3))])
  .ret)),
  [.v 2]⟩
def w5t : IFun := ⟨[0, 1, 2, 4],
  (.seq (jr [js 2 (.box t_int 1 (.v 0)), js 3 (.mov (.c (.bool false)))])
  (.seq (jr [jn (.mov (.v 1)), jn (.mkfn w3s [(.v 2)]), jn (.call false w47 [(.r 0), (.r 1)]), jn (.not (.r 2)), js 3 (.mov (.r 3))])
  .ret)),
  [.v 3]⟩
def w63 : IFun := ⟨[0, 2, 4, 8],
  (.seq (jr [js 1 (.mov (jc 0))])
  (.seq (.seq (jr [jn (.mov (.v 0)), js 2 (.bin false .geq (.r 0) (.c (.int .u32 65536)))])
  (.cond (.v 2) (.seq (jr [jn (.mov (.v 0)), jn (.bin false .shr (.r 0) (.c (.int .u64 16))), js 0 (.mov (.r 1))])
  (jr [js 1 (.mov (jc 16))])) .skip))
  (.seq (.seq (jr [jn (.mov (.v 0)), js 3 (.bin false .geq (.r 0) (.c (.int .u32 256)))])
  (.cond (.v 3) (.seq (jr [jn (.mov (.v 0)), jn (.bin false .shr (.r 0) (.c (.int .u64 8))), js 0 (.mov (.r 1))])
  (jr [jn (.mov (.v 1)), jn (.bin false .add (.r 0) (jc 8)), js 1 (.mov (.r 1))])) .skip))
  (.seq (jr [jn (.mov (.v 1)), jn (.mov (.v 0)), jn (.conv .u8 (.r 1)), ⟨none, .stri (.c (.str ⟨#[0, 1, 2, 2, 3, 3, 3, 3, 4, 4, 4, 4, 4, 4, 4, 4, 5, 5, 5, 5, 5, 5, 5, 5, 5, 5, 5, 5, 5, 5, 5, 5, 6, 6, 6, 6, 6, 6, 6, 6, 6, 6, 6, 6, 6, 6, 6, 6, 6, 6, 6, 6, 6, 6, 6, 6, 6, 6, 6, 6, 6, 6, 6, 6, 7, 7, 7, 7, 7, 7, 7, 7, 7, 7, 7, 7, 7, 7, 7, 7, 7, 7, 7, 7, 7, 7, 7, 7, 7, 7, 7, 7, 7, 7, 7, 7, 7, 7, 7, 7, 7, 7, 7, 7, 7, 7, 7, 7, 7, 7, 7, 7, 7, 7, 7, 7, 7, 7, 7, 7, 7, 7, 7, 7, 7, 7, 7, 7, 8, 8, 8, 8, 8, 8, 8, 8, 8, 8, 8, 8, 8, 8, 8, 8, 8, 8, 8, 8, 8, 8, 8, 8, 8, 8, 8, 8, 8, 8, 8, 8, 8, 8, 8, 8, 8, 8, 8, 8, 8, 8, 8, 8, 8, 8, 8, 8, 8, 8, 8, 8, 8, 8, 8, 8, 8, 8, 8, 8, 8, 8, 8, 8, 8, 8, 8, 8, 8, 8, 8, 8, 8, 8, 8, 8, 8, 8, 8, 8, 8, 8, 8, 8, 8, 8, 8, 8, 8, 8, 8, 8, 8, 8, 8, 8, 8, 8, 8, 8, 8, 8, 8, 8, 8, 8, 8, 8, 8, 8, 8, 8, 8, 8, 8, 8, 8, 8, 8, 8, 8, 8, 8, 8, 8, 8, 8, 8]⟩)) (.r 2), none⟩, jn (.conv .i64 (.r 3)), jn (.bin false .add (.r 0) (.r 4)), js 1 (.mov (.r 5))])
  .ret)))),
  [.v 1]⟩
def w64 : IFun := ⟨[0, 2, 4, 8, 14],
  (.seq (jr [js 1 (.mov (jc 0))])
  (.seq (.seq (jr [jn (.mov (.v 0)), js 2 (.bin false .geq (.r 0) (.c (.int .u64 4294967296)))])
  (.cond (.v 2) (.seq (jr [jn (.mov (.v 0)), jn (.bin false .shr (.r 0) (.c (.int .u64 32))), js 0 (.mov (.r 1))])
  (jr [js 1 (.mov (jc 32))])) .skip))
  (.seq (.seq (jr [jn (.mov (.v 0)), js 3 (.bin false .geq (.r 0) (.c (.int .u64 65536)))])
  (.cond (.v 3) (.seq (jr [jn (.mov (.v 0)), jn (.bin false .shr (.r 0) (.c (.int .u64 16))), js 0 (.mov (.r 1))])
  (jr [jn (.mov (.v 1)), jn (.bin false .add (.r 0) (jc 16)), js 1 (.mov (.r 1))])) .skip))
  (.seq (.seq (jr [jn (.mov (.v 0)), js 4 (.bin false .geq (.r 0) (.c (.int .u64 256)))])
  (.cond (.v 4) (.seq (jr [jn (.mov (.v 0)), jn (.bin false .shr (.r 0) (.c (.int .u64 8))), js 0 (.mov (.r 1))])
  (jr [jn (.mov (.v 1)), jn (.bin false .add (.r 0) (jc 8)), js 1 (.mov (.r 1))])) .skip))
  (.seq (jr [jn (.mov (.v 1)), jn (.mov (.v 0)), jn (.conv .u8 (.r 1)), ⟨none, .stri (.c (.str ⟨#[0, 1, 2, 2, 3, 3, 3, 3, 4, 4, 4, 4, 4, 4, 4, 4, 5, 5, 5, 5, 5, 5, 5, 5, 5, 5, 5, 5, 5, 5, 5, 5, 6, 6, 6, 6, 6, 6, 6, 6, 6, 6, 6, 6, 6, 6, 6, 6, 6, 6, 6, 6, 6, 6, 6, 6, 6, 6, 6, 6, 6, 6, 6, 6, 7, 7, 7, 7, 7, 7, 7, 7, 7, 7, 7, 7, 7, 7, 7, 7, 7, 7, 7, 7, 7, 7, 7, 7, 7, 7, 7, 7, 7, 7, 7, 7, 7, 7, 7, 7, 7, 7, 7, 7, 7, 7, 7, 7, 7, 7, 7, 7, 7, 7, 7, 7, 7, 7, 7, 7, 7, 7, 7, 7, 7, 7, 7, 7, 8, 8, 8, 8, 8, 8, 8, 8, 8, 8, 8, 8, 8, 8, 8, 8, 8, 8, 8, 8, 8, 8, 8, 8, 8, 8, 8, 8, 8, 8, 8, 8, 8, 8, 8, 8, 8, 8, 8, 8, 8, 8, 8, 8, 8, 8, 8, 8, 8, 8, 8, 8, 8, 8, 8, 8, 8, 8, 8, 8, 8, 8, 8, 8, 8, 8, 8, 8, 8, 8, 8, 8, 8, 8, 8, 8, 8, 8, 8, 8, 8, 8, 8, 8, 8, 8, 8, 8, 8, 8, 8, 8, 8, 8, 8, 8, 8, 8, 8, 8, 8, 8, 8, 8, 8, 8, 8, 8, 8, 8, 8, 8, 8, 8, 8, 8, 8, 8, 8, 8, 8, 8, 8, 8, 8, 8, 8, 8]⟩)) (.r 2), none⟩, jn (.conv .i64 (.r 3)), jn (.bin false .add (.r 0) (.r 4)), js 1 (.mov (.r 5))])
  .ret))))),
  [.v 1]⟩
def w62 : IFun := ⟨[0, 2],
  (.seq (jr [js 1 (.mov (jc 0))])
  (.seq (.cond (.c (.bool false)) (.seq (jr [jn (.mov (.v 0)), jn (.conv .u32 (.r 0)), jn (.call false w41 [(.r 1)]), js 1 (.mov (.r 2))])
  .ret) .skip)
  (.seq (jr [jn (.mov (.v 0)), jn (.call false w42 [(.r 0)]), js 1 (.mov (.r 1))])
  .ret))),
  [.v 1]⟩
def w6e : IFun := ⟨[0, 1, 2, 3, 8, 9, 14, 34],
  (.seq (jr [jn (.mov (.v 1)), jn (.bin false .add (.r 0) (jc 1)), js 4 (.mov (.r 1))])
  (.block 0 (.loop [true, true, true, true, true, false, false, false] (.seq (.seq (jr [jn (.mov (.v 4)), jn (.mov (.v 2)), js 6 (.bin false .lss (.r 0) (.r 1))])
  (.cond (.v 6) .skip (.exit 0)))
  (.seq (.block 1 (.seq (jr [jn (.mov (.v 4)), js 5 (.mov (.r 0))])
  (.block 2 (.loop [true, true, true, true, true, true, false, false] (.seq (.seq (.region true [] [jn (.mov (.v 5)), jn (.mov (.v 1)), jn (.bin false .gtr (.r 0) (.r 1)), jn (.mov (.r 2)), jt 3 (.mov (.v 3)), jt 3 (.mov (.v 0)), jt 3 (.mov (.v 5)), jt 3 (.iaddr 1 (.r 5) (.r 6)), jt 3 (.load false 1 (.r 7)), jt 3 (.mov (.v 0)), jt 3 (.mov (.v 5)), jt 3 (.bin false .sub (.r 10) (jc 1)), jt 3 (.iaddr 1 (.r 9) (.r 11)), jt 3 (.load false 1 (.r 12)), jt 3 (.callv false (.r 4) [(.r 8), (.r 13)]), jt 3 (.bin false .lss (.r 14) (jc 0)), js 7 (.pick (.r 3) (.r 15) (.c (.bool false)))])
  (.cond (.v 7) .skip (.exit 2)))
  (.seq (.block 3 (.region true [] [jn (.mov (.v 0)), jn (.mov (.v 5)), jn (.mov (.v 0)), jn (.mov (.v 5)), jn (.bin false .sub (.r 3) (jc 1)), jn (.mov (.v 0)), jn (.mov (.v 5)), jn (.bin false .sub (.r 6) (jc 1)), jn (.iaddr 1 (.r 5) (.r 7)), jn (.load false 1 (.r 8)), jn (.mov (.v 0)), jn (.mov (.v 5)), jn (.iaddr 1 (.r 10) (.r 11)), jn (.load false 1 (.r 12)), jn (.iaddr 1 (.r 0) (.r 1)), jn (.store 1 (.r 14) (.r 9)), jn (.iaddr 1 (.r 2) (.r 4)), jn (.store 1 (.r 16) (.r 13))]))
  (jr [jn (.mov (.v 5)), jn (.bin false .sub (.r 0) (jc 1)), js 5 (.mov (.r 1))])))))))
  (jr [jn (.mov (.v 4)), jn (.bin false .add (.r 0) (jc 1)), js 4 (.mov (.r 1))])))))),
  []⟩
def w6o : IFun := ⟨[0, 1, 2, 3, 4, 10, 11, 18, 40, 58],
  (.seq (jr [jn (.mov (.v 1)), js 5 (.mov (.r 0))])
  (.block 0 (.loop [true, false, true, true, true, true, false, false, false, false] (.block 1 (.seq (jr [jn (.mov (.v 5)), jn (.bin false .mul (jc 2) (.r 0)), jn (.bin false .add (.r 1) (jc 1)), js 6 (.mov (.r 2))])
  (.seq (.seq (jr [jn (.mov (.v 6)), jn (.mov (.v 2)), js 7 (.bin false .geq (.r 0) (.r 1))])
  (.cond (.v 7) (.exit 0) .skip))
  (.seq (.seq (.region true [] [jn (.mov (.v 6)), jn (.bin false .add (.r 0) (jc 1)), jn (.mov (.v 2)), jn (.bin false .lss (.r 1) (.r 2)), jn (.mov (.r 3)), jt 4 (.mov (.v 4)), jt 4 (.mov (.v 0)), jt 4 (.mov (.v 3)), jt 4 (.mov (.v 6)), jt 4 (.bin false .add (.r 7) (.r 8)), jt 4 (.iaddr 1 (.r 6) (.r 9)), jt 4 (.load false 1 (.r 10)), jt 4 (.mov (.v 0)), jt 4 (.mov (.v 3)), jt 4 (.mov (.v 6)), jt 4 (.bin false .add (.r 13) (.r 14)), jt 4 (.bin false .add (.r 15) (jc 1)), jt 4 (.iaddr 1 (.r 12) (.r 16)), jt 4 (.load false 1 (.r 17)), jt 4 (.callv false (.r 5) [(.r 11), (.r 18)]), jt 4 (.bin false .lss (.r 19) (jc 0)), js 8 (.pick (.r 4) (.r 20) (.c (.bool false)))])
  (.cond (.v 8) (jr [jn (.mov (.v 6)), jn (.bin false .add (.r 0) (jc 1)), js 6 (.mov (.r 1))]) .skip))
  (.seq (.seq (.region true [] [jn (.mov (.v 4)), jn (.mov (.v 0)), jn (.mov (.v 3)), jn (.mov (.v 5)), jn (.bin false .add (.r 2) (.r 3)), jn (.iaddr 1 (.r 1) (.r 4)), jn (.load false 1 (.r 5)), jn (.mov (.v 0)), jn (.mov (.v 3)), jn (.mov (.v 6)), jn (.bin false .add (.r 8) (.r 9)), jn (.iaddr 1 (.r 7) (.r 10)), jn (.load false 1 (.r 11)), jn (.callv false (.r 0) [(.r 6), (.r 12)]), jn (.bin false .lss (.r 13) (jc 0)), js 9 (.not (.r 14))])
  (.cond (.v 9) .ret .skip))
  (.seq (.region true [] [jn (.mov (.v 0)), jn (.mov (.v 3)), jn (.mov (.v 5)), jn (.bin false .add (.r 1) (.r 2)), jn (.mov (.v 0)), jn (.mov (.v 3)), jn (.mov (.v 6)), jn (.bin false .add (.r 5) (.r 6)), jn (.mov (.v 0)), jn (.mov (.v 3)), jn (.mov (.v 6)), jn (.bin false .add (.r 9) (.r 10)), jn (.iaddr 1 (.r 8) (.r 11)), jn (.load false 1 (.r 12)), jn (.mov (.v 0)), jn (.mov (.v 3)), jn (.mov (.v 5)), jn (.bin false .add (.r 15) (.r 16)), jn (.iaddr 1 (.r 14) (.r 17)), jn (.load false 1 (.r 18)), jn (.iaddr 1 (.r 0) (.r 3)), jn (.store 1 (.r 20) (.r 13)), jn (.iaddr 1 (.r 4) (.r 7)), jn (.store 1 (.r 22) (.r 19))])
  (jr [jn (.mov (.v 6)), js 5 (.mov (.r 0))])))))))))),
  []⟩
def w6d : IFun := ⟨[0, 1, 2, 3, 8, 9, 10, 11, 12, 21, 33],
  (.seq (jr [jn (.mov (.v 1)), js 4 (.mov (.r 0))])
  (.seq (jr [js 5 (.mov (jc 0))])
  (.seq (jr [jn (.mov (.v 2)), jn (.mov (.v 1)), jn (.bin false .sub (.r 0) (.r 1)), js 6 (.mov (.r 2))])
  (.seq (.seq (jr [jn (.mov (.v 6)), jn (.bin false .sub (.r 0) (jc 1)), jn (.bin false .quo (.r 1) (jc 2)), js 7 (.mov (.r 2))])
  (.block 0 (.loop [true, false, false, true, true, true, true, true, false, false, false] (.seq (.seq (jr [jn (.mov (.v 7)), js 9 (.bin false .geq (.r 0) (jc 0))])
  (.cond (.v 9) .skip (.exit 0)))
  (.seq (.block 1 (jr [jn (.mov (.v 0)), jn (.mov (.v 7)), jn (.mov (.v 6)), jn (.mov (.v 4)), jn (.mov (.v 3)), jn (.callm w4o [(.r 0), (.r 1), (.r 2), (.r 3), (.r 4)])]))
  (jr [jn (.mov (.v 7)), jn (.bin false .sub (.r 0) (jc 1)), js 7 (.mov (.r 1))]))))))
  (.seq (jr [jn (.mov (.v 6)), jn (.bin false .sub (.r 0) (jc 1)), js 8 (.mov (.r 1))])
  (.block 2 (.loop [true, false, false, true, true, true, false, false, true, false, false] (.seq (.seq (jr [jn (.mov (.v 8)), js 10 (.bin false .geq (.r 0) (jc 0))])
  (.cond (.v 10) .skip (.exit 2)))
  (.seq (.block 3 (.seq (.region true [] [jn (.mov (.v 0)), jn (.mov (.v 4)), jn (.mov (.v 0)), jn (.mov (.v 4)), jn (.mov (.v 8)), jn (.bin false .add (.r 3) (.r 4)), jn (.mov (.v 0)), jn (.mov (.v 4)), jn (.mov (.v 8)), jn (.bin false .add (.r 7) (.r 8)), jn (.iaddr 1 (.r 6) (.r 9)), jn (.load false 1 (.r 10)), jn (.mov (.v 0)), jn (.mov (.v 4)), jn (.iaddr 1 (.r 12) (.r 13)), jn (.load false 1 (.r 14)), jn (.iaddr 1 (.r 0) (.r 1)), jn (.store 1 (.r 16) (.r 11)), jn (.iaddr 1 (.r 2) (.r 5)), jn (.store 1 (.r 18) (.r 15))])
  (jr [jn (.mov (.v 0)), jn (.mov (.v 5)), jn (.mov (.v 8)), jn (.mov (.v 4)), jn (.mov (.v 3)), jn (.callm w4o [(.r 0), (.r 1), (.r 2), (.r 3), (.r 4)])])))
  (jr [jn (.mov (.v 8)), jn (.bin false .sub (.r 0) (jc 1)), js 8 (.mov (.r 1))])))))))))),
  []⟩
def w6h : IFun := ⟨[0, 2],
  (.seq (jr [js 1 (.mov (.c (.int .u64 0)))])
  (.seq (jr [jn (.mov (.v 0)), jn (.conv .u64 (.r 0)), jn (.call false w40 [(.r 1)]), jn (.bin false .shl (.c (.int .u64 1)) (.r 2)), js 1 (.mov (.r 3))])
  .ret)),
  [.v 1]⟩
def w6p : IFun := ⟨[0, 2],
  (.seq (jr [js 1 (.mov (.c (.int .u64 0)))])
  (.seq (.region true [] [jn (.mov (.v 0)), jn (.ncheck (.r 0)), jn (.load false 1 (.r 1)), jn (.mov (.v 0)), jn (.ncheck (.r 3)), jn (.load false 1 (.r 4)), jn (.bin false .shl (.r 5) (.c (.int .u64 13))), jn (.bin false .xor (.r 2) (.r 6)), jn (.ncheck (.r 0)), jn (.store 1 (.r 8) (.r 7))])
  (.seq (.region true [] [jn (.mov (.v 0)), jn (.ncheck (.r 0)), jn (.load false 1 (.r 1)), jn (.mov (.v 0)), jn (.ncheck (.r 3)), jn (.load false 1 (.r 4)), jn (.bin false .shr (.r 5) (.c (.int .u64 7))), jn (.bin false .xor (.r 2) (.r 6)), jn (.ncheck (.r 0)), jn (.store 1 (.r 8) (.r 7))])
  (.seq (.region true [] [jn (.mov (.v 0)), jn (.ncheck (.r 0)), jn (.load false 1 (.r 1)), jn (.mov (.v 0)), jn (.ncheck (.r 3)), jn (.load false 1 (.r 4)), jn (.bin false .shl (.r 5) (.c (.int .u64 17))), jn (.bin false .xor (.r 2) (.r 6)), jn (.ncheck (.r 0)), jn (.store 1 (.r 8) (.r 7))])
  (.seq (jr [jn (.mov (.v 0)), jn (.ncheck (.r 0)), jn (.load false 1 (.r 1)), js 1 (.mov (.r 2))])
  .ret))))),
  [.v 1]⟩
def w6b : IFun := ⟨[0, 1, 2, 8, 9, 10, 11, 12, 17, 35, 45],
  (.seq (jr [jn (.mov (.v 2)), jn (.mov (.v 1)), jn (.bin false .sub (.r 0) (.r 1)), js 3 (.mov (.r 2))])
  (.seq (jr [jn (.mov (.v 3)), js 8 (.bin false .geq (.r 0) (jc 8))])
  (.cond (.v 8) (.seq (jr [jn (.mov (.v 3)), jn (.conv .u64 (.r 0)), js 4 (.alloc w8u [(.int .u64 0)]), jn (.store 1 (.v 4) (.r 1))])
  (.seq (jr [jn (.mov (.v 3)), jn (.call false w4h [(.r 0)]), js 5 (.mov (.r 1))])
  (.seq (jr [jn (.mov (.v 1)), jn (.mov (.v 3)), jn (.bin false .quo (.r 1) (jc 4)), jn (.bin false .mul (.r 2) (jc 2)), jn (.bin false .add (.r 0) (.r 3)), jn (.bin false .sub (.r 4) (jc 1)), js 6 (.mov (.r 5))])
  (.block 0 (.loop [true, true, false, true, true, true, true, false, false, false, false] (.seq (.seq (jr [jn (.mov (.v 6)), jn (.mov (.v 1)), jn (.mov (.v 3)), jn (.bin false .quo (.r 2) (jc 4)), jn (.bin false .mul (.r 3) (jc 2)), jn (.bin false .add (.r 1) (.r 4)), jn (.bin false .add (.r 5) (jc 1)), js 9 (.bin false .leq (.r 0) (.r 6))])
  (.cond (.v 9) .skip (.exit 0)))
  (.seq (.block 1 (.seq (jr [jn (.callm w4p [(.v 4)]), jn (.mov (.v 5)), jn (.bin false .sub (.r 1) (.c (.int .u64 1))), jn (.bin false .and (.r 0) (.r 2)), jn (.conv .i64 (.r 3)), js 7 (.mov (.r 4))])
  (.seq (.seq (jr [jn (.mov (.v 7)), jn (.mov (.v 3)), js 10 (.bin false .geq (.r 0) (.r 1))])
  (.cond (.v 10) (jr [jn (.mov (.v 7)), jn (.mov (.v 3)), jn (.bin false .sub (.r 0) (.r 1)), js 7 (.mov (.r 2))]) .skip))
  (.region true [] [jn (.mov (.v 0)), jn (.mov (.v 6)), jn (.mov (.v 0)), jn (.mov (.v 1)), jn (.mov (.v 7)), jn (.bin false .add (.r 3) (.r 4)), jn (.mov (.v 0)), jn (.mov (.v 1)), jn (.mov (.v 7)), jn (.bin false .add (.r 7) (.r 8)), jn (.iaddr 1 (.r 6) (.r 9)), jn (.load false 1 (.r 10)), jn (.mov (.v 0)), jn (.mov (.v 6)), jn (.iaddr 1 (.r 12) (.r 13)), jn (.load false 1 (.r 14)), jn (.iaddr 1 (.r 0) (.r 1)), jn (.store 1 (.r 16) (.r 11)), jn (.iaddr 1 (.r 2) (.r 5)), jn (.store 1 (.r 18) (.r 15))]))))
  (jr [jn (.mov (.v 6)), jn (.bin false .add (.r 0) (jc 1)), js 6 (.mov (.r 1))])))))))) .skip))),
  []⟩
def w6i : IFun := ⟨[0, 1, 2, 3, 4, 10, 11, 22],
  (.seq (jr [js 5 (.mov (jc 0)), js 6 (.mov (jc 0))])
  (.seq (.seq (.region true [] [jn (.mov (.v 4)), jn (.mov (.v 0)), jn (.mov (.v 2)), jn (.iaddr 1 (.r 1) (.r 2)), jn (.load false 1 (.r 3)), jn (.mov (.v 0)), jn (.mov (.v 1)), jn (.iaddr 1 (.r 5) (.r 6)), jn (.load false 1 (.r 7)), jn (.callv false (.r 0) [(.r 4), (.r 8)]), js 7 (.bin false .lss (.r 9) (jc 0))])
  (.cond (.v 7) (.seq (jr [jn (.mov (.v 3)), jn (.ncheck (.r 0)), jn (.load false 1 (.r 1)), jn (.bin false .add (.r 2) (jc 1)), jn (.ncheck (.r 0)), jn (.store 1 (.r 4) (.r 3))])
  (.seq (jr [jn (.mov (.v 2)), jn (.mov (.v 1)), js 5 (.mov (.r 0)), js 6 (.mov (.r 1))])
  .ret)) .skip))
  (.seq (jr [jn (.mov (.v 1)), jn (.mov (.v 2)), js 5 (.mov (.r 0)), js 6 (.mov (.r 1))])
  .ret))),
  [.v 5, .v 6]⟩
def w6g : IFun := ⟨[0, 1, 2, 3, 4, 5, 12],
  (.seq (jr [js 6 (.mov (jc 0))])
  (.seq (jr [jn (.mov (.v 0)), jn (.mov (.v 1)), jn (.mov (.v 2)), jn (.mov (.v 4)), jn (.mov (.v 5)), jn (.callm w4i [(.r 0), (.r 1), (.r 2), (.r 3), (.r 4)]), jn (.mov (.r 5)), jn (.extract (.r 6) 0), jn (.extract (.r 6) 1), js 1 (.mov (.r 7)), js 2 (.mov (.r 8))])
  (.seq (jr [jn (.mov (.v 0)), jn (.mov (.v 2)), jn (.mov (.v 3)), jn (.mov (.v 4)), jn (.mov (.v 5)), jn (.callm w4i [(.r 0), (.r 1), (.r 2), (.r 3), (.r 4)]), jn (.mov (.r 5)), jn (.extract (.r 6) 0), jn (.extract (.r 6) 1), js 2 (.mov (.r 7)), js 3 (.mov (.r 8))])
  (.seq (jr [jn (.mov (.v 0)), jn (.mov (.v 1)), jn (.mov (.v 2)), jn (.mov (.v 4)), jn (.mov (.v 5)), jn (.callm w4i [(.r 0), (.r 1), (.r 2), (.r 3), (.r 4)]), jn (.mov (.r 5)), jn (.extract (.r 6) 0), jn (.extract (.r 6) 1), js 1 (.mov (.r 7)), js 2 (.mov (.r 8))])
  (.seq (jr [jn (.mov (.v 2)), js 6 (.mov (.r 0))])
  .ret))))),
  [.v 6]⟩
def w6f : IFun := ⟨[0, 1, 2, 3, 8],
  (.seq (jr [js 4 (.mov (jc 0))])
  (.seq (jr [jn (.mov (.v 0)), jn (.mov (.v 1)), jn (.bin false .sub (.r 1) (jc 1)), jn (.mov (.v 1)), jn (.mov (.v 1)), jn (.bin false .add (.r 4) (jc 1)), jn (.mov (.v 2)), jn (.mov (.v 3)), jn (.callm w4g [(.r 0), (.r 2), (.r 3), (.r 5), (.r 6), (.r 7)]), js 4 (.mov (.r 8))])
  .ret)),
  [.v 4]⟩
def w6c : IFun := ⟨[0, 1, 2, 3, 8, 9, 10, 11, 12, 13, 14, 34, 36, 55, 57, 60],
  (.seq (jr [js 4 (.mov (jc 0)), js 5 (.mov (jc 0))])
  (.seq (jr [jn (.mov (.v 2)), jn (.mov (.v 1)), jn (.bin false .sub (.r 0) (.r 1)), js 6 (.mov (.r 2))])
  (.seq (jr [js 7 (.alloc t_int [(.int .i64 0)])])
  (.seq (jr [jn (.mov (.v 1)), jn (.mov (.v 6)), jn (.bin false .quo (.r 1) (jc 4)), jn (.bin false .mul (.r 2) (jc 1)), jn (.bin false .add (.r 0) (.r 3)), js 8 (.mov (.r 4))])
  (.seq (jr [jn (.mov (.v 1)), jn (.mov (.v 6)), jn (.bin false .quo (.r 1) (jc 4)), jn (.bin false .mul (.r 2) (jc 2)), jn (.bin false .add (.r 0) (.r 3)), js 9 (.mov (.r 4))])
  (.seq (jr [jn (.mov (.v 1)), jn (.mov (.v 6)), jn (.bin false .quo (.r 1) (jc 4)), jn (.bin false .mul (.r 2) (jc 3)), jn (.bin false .add (.r 0) (.r 3)), js 10 (.mov (.r 4))])
  (.seq (.seq (jr [jn (.mov (.v 6)), js 11 (.bin false .geq (.r 0) (jc 8))])
  (.cond (.v 11) (.seq (.seq (jr [jn (.mov (.v 6)), js 12 (.bin false .geq (.r 0) (jc 50))])
  (.cond (.v 12) (.seq (jr [jn (.mov (.v 0)), jn (.mov (.v 8)), jn (.mov (.v 3)), jn (.callm w4f [(.r 0), (.r 1), (.v 7), (.r 2)]), js 8 (.mov (.r 3))])
  (.seq (jr [jn (.mov (.v 0)), jn (.mov (.v 9)), jn (.mov (.v 3)), jn (.callm w4f [(.r 0), (.r 1), (.v 7), (.r 2)]), js 9 (.mov (.r 3))])
  (jr [jn (.mov (.v 0)), jn (.mov (.v 10)), jn (.mov (.v 3)), jn (.callm w4f [(.r 0), (.r 1), (.v 7), (.r 2)]), js 10 (.mov (.r 3))]))) .skip))
  (jr [jn (.mov (.v 0)), jn (.mov (.v 8)), jn (.mov (.v 9)), jn (.mov (.v 10)), jn (.mov (.v 3)), jn (.callm w4g [(.r 0), (.r 1), (.r 2), (.r 3), (.v 7), (.r 4)]), js 9 (.mov (.r 5))])) .skip))
  (.seq (jr [js 13 (.load false 1 (.v 7))])
  (.block 0 (.seq (jr [jn (.bin false .eql (.v 13) (jc 0)), js 14 (.mov (.r 0))])
  (.cond (.v 14) (.seq (jr [jn (.mov (.v 9)), js 4 (.mov (.r 0)), js 5 (.mov (jc 1))])
  .ret) (.seq (jr [jn (.bin false .eql (.v 13) (jc 12)), js 15 (.mov (.r 0))])
  (.cond (.v 15) (.seq (jr [jn (.mov (.v 9)), js 4 (.mov (.r 0)), js 5 (.mov (jc 2))])
  .ret) (.seq (jr [jn (.mov (.v 9)), js 4 (.mov (.r 0)), js 5 (.mov (jc 0))])
  .ret)))))))))))))),
  [.v 4, .v 5]⟩
def w6n : IFun := ⟨[0, 1, 2, 8, 9, 15],
  (.seq (jr [jn (.mov (.v 1)), js 3 (.mov (.r 0))])
  (.seq (jr [jn (.mov (.v 2)), jn (.bin false .sub (.r 0) (jc 1)), js 4 (.mov (.r 1))])
  (.block 0 (.loop [true, false, false, true, true, false] (.seq (.seq (jr [jn (.mov (.v 3)), jn (.mov (.v 4)), js 5 (.bin false .lss (.r 0) (.r 1))])
  (.cond (.v 5) .skip (.exit 0)))
  (.block 1 (.seq (.region true [] [jn (.mov (.v 0)), jn (.mov (.v 3)), jn (.mov (.v 0)), jn (.mov (.v 4)), jn (.mov (.v 0)), jn (.mov (.v 4)), jn (.iaddr 1 (.r 4) (.r 5)), jn (.load false 1 (.r 6)), jn (.mov (.v 0)), jn (.mov (.v 3)), jn (.iaddr 1 (.r 8) (.r 9)), jn (.load false 1 (.r 10)), jn (.iaddr 1 (.r 0) (.r 1)), jn (.store 1 (.r 12) (.r 7)), jn (.iaddr 1 (.r 2) (.r 3)), jn (.store 1 (.r 14) (.r 11))])
  (.seq (jr [jn (.mov (.v 3)), jn (.bin false .add (.r 0) (jc 1)), js 3 (.mov (.r 1))])
  (jr [jn (.mov (.v 4)), jn (.bin false .sub (.r 0) (jc 1)), js 4 (.mov (.r 1))]))))))))),
  []⟩
def w6j : IFun := ⟨[0, 1, 2, 3, 8, 9, 10, 11, 12, 16, 36, 41, 45, 65, 69, 84, 104, 109, 124],
  (.seq (jr [js 4 (.mov (.c (.bool false)))])
  (.seq (jr [jn (.mov (.v 1)), jn (.bin false .add (.r 0) (jc 1)), js 5 (.mov (.r 1))])
  (.seq (.seq (jr [js 6 (.mov (jc 0))])
  (.block 0 (.loop [true, true, true, true, false, true, true, false, false, false, false, false, false, false, false, false, false, false, false] (.seq (.seq (jr [jn (.mov (.v 6)), js 9 (.bin false .lss (.r 0) (jc 5))])
  (.cond (.v 9) .skip (.exit 0)))
  (.seq (.block 1 (.seq (.block 2 (.loop [true, true, true, true, false, true, true, false, false, false, false, false, false, false, false, false, false, false, false] (.seq (.seq (.region true [] [jn (.mov (.v 5)), jn (.mov (.v 2)), jn (.bin false .lss (.r 0) (.r 1)), jn (.mov (.r 2)), jt 3 (.mov (.v 3)), jt 3 (.mov (.v 0)), jt 3 (.mov (.v 5)), jt 3 (.iaddr 1 (.r 5) (.r 6)), jt 3 (.load false 1 (.r 7)), jt 3 (.mov (.v 0)), jt 3 (.mov (.v 5)), jt 3 (.bin false .sub (.r 10) (jc 1)), jt 3 (.iaddr 1 (.r 9) (.r 11)), jt 3 (.load false 1 (.r 12)), jt 3 (.callv false (.r 4) [(.r 8), (.r 13)]), jt 3 (.bin false .lss (.r 14) (jc 0)), jt 3 (.not (.r 15)), js 10 (.pick (.r 3) (.r 16) (.c (.bool false)))])
  (.cond (.v 10) .skip (.exit 2)))
  (.block 3 (jr [jn (.mov (.v 5)), jn (.bin false .add (.r 0) (jc 1)), js 5 (.mov (.r 1))])))))
  (.seq (.seq (jr [jn (.mov (.v 5)), jn (.mov (.v 2)), js 11 (.bin false .eql (.r 0) (.r 1))])
  (.cond (.v 11) (.seq (jr [js 4 (.mov (.c (.bool true)))])
  .ret) .skip))
  (.seq (.seq (jr [jn (.mov (.v 2)), jn (.mov (.v 1)), jn (.bin false .sub (.r 0) (.r 1)), js 12 (.bin false .lss (.r 2) (jc 50))])
  (.cond (.v 12) (.seq (jr [js 4 (.mov (.c (.bool false)))])
  .ret) .skip))
  (.seq (.region true [] [jn (.mov (.v 0)), jn (.mov (.v 5)), jn (.mov (.v 0)), jn (.mov (.v 5)), jn (.bin false .sub (.r 3) (jc 1)), jn (.mov (.v 0)), jn (.mov (.v 5)), jn (.bin false .sub (.r 6) (jc 1)), jn (.iaddr 1 (.r 5) (.r 7)), jn (.load false 1 (.r 8)), jn (.mov (.v 0)), jn (.mov (.v 5)), jn (.iaddr 1 (.r 10) (.r 11)), jn (.load false 1 (.r 12)), jn (.iaddr 1 (.r 0) (.r 1)), jn (.store 1 (.r 14) (.r 9)), jn (.iaddr 1 (.r 2) (.r 4)), jn (.store 1 (.r 16) (.r 13))])
  (.seq (.seq (jr [jn (.mov (.v 5)), jn (.mov (.v 1)), jn (.bin false .sub (.r 0) (.r 1)), js 13 (.bin false .geq (.r 2) (jc 2))])
  (.cond (.v 13) (.seq (jr [jn (.mov (.v 5)), jn (.bin false .sub (.r 0) (jc 1)), js 7 (.mov (.r 1))])
  (.block 4 (.loop [true, true, true, true, false, true, true, true, false, false, false, false, false, false, false, false, false, false, false] (.seq (.seq (jr [jn (.mov (.v 7)), js 14 (.bin false .geq (.r 0) (jc 1))])
  (.cond (.v 14) .skip (.exit 4)))
  (.seq (.block 5 (.seq (.seq (.region true [] [jn (.mov (.v 3)), jn (.mov (.v 0)), jn (.mov (.v 7)), jn (.iaddr 1 (.r 1) (.r 2)), jn (.load false 1 (.r 3)), jn (.mov (.v 0)), jn (.mov (.v 7)), jn (.bin false .sub (.r 6) (jc 1)), jn (.iaddr 1 (.r 5) (.r 7)), jn (.load false 1 (.r 8)), jn (.callv false (.r 0) [(.r 4), (.r 9)]), jn (.bin false .lss (.r 10) (jc 0)), js 15 (.not (.r 11))])
  (.cond (.v 15) (.exit 4) .skip))
  (.region true [] [jn (.mov (.v 0)), jn (.mov (.v 7)), jn (.mov (.v 0)), jn (.mov (.v 7)), jn (.bin false .sub (.r 3) (jc 1)), jn (.mov (.v 0)), jn (.mov (.v 7)), jn (.bin false .sub (.r 6) (jc 1)), jn (.iaddr 1 (.r 5) (.r 7)), jn (.load false 1 (.r 8)), jn (.mov (.v 0)), jn (.mov (.v 7)), jn (.iaddr 1 (.r 10) (.r 11)), jn (.load false 1 (.r 12)), jn (.iaddr 1 (.r 0) (.r 1)), jn (.store 1 (.r 14) (.r 9)), jn (.iaddr 1 (.r 2) (.r 4)), jn (.store 1 (.r 16) (.r 13))])))
  (jr [jn (.mov (.v 7)), jn (.bin false .sub (.r 0) (jc 1)), js 7 (.mov (.r 1))])))))) .skip))
  (.seq (jr [jn (.mov (.v 2)), jn (.mov (.v 5)), jn (.bin false .sub (.r 0) (.r 1)), js 16 (.bin false .geq (.r 2) (jc 2))])
  (.cond (.v 16) (.seq (jr [jn (.mov (.v 5)), jn (.bin false .add (.r 0) (jc 1)), js 8 (.mov (.r 1))])
  (.block 6 (.loop [true, true, true, true, false, true, true, false, true, false, false, false, false, false, false, false, false, false, false] (.seq (.seq (jr [jn (.mov (.v 8)), jn (.mov (.v 2)), js 17 (.bin false .lss (.r 0) (.r 1))])
  (.cond (.v 17) .skip (.exit 6)))
  (.seq (.block 7 (.seq (.seq (.region true [] [jn (.mov (.v 3)), jn (.mov (.v 0)), jn (.mov (.v 8)), jn (.iaddr 1 (.r 1) (.r 2)), jn (.load false 1 (.r 3)), jn (.mov (.v 0)), jn (.mov (.v 8)), jn (.bin false .sub (.r 6) (jc 1)), jn (.iaddr 1 (.r 5) (.r 7)), jn (.load false 1 (.r 8)), jn (.callv false (.r 0) [(.r 4), (.r 9)]), jn (.bin false .lss (.r 10) (jc 0)), js 18 (.not (.r 11))])
  (.cond (.v 18) (.exit 6) .skip))
  (.region true [] [jn (.mov (.v 0)), jn (.mov (.v 8)), jn (.mov (.v 0)), jn (.mov (.v 8)), jn (.bin false .sub (.r 3) (jc 1)), jn (.mov (.v 0)), jn (.mov (.v 8)), jn (.bin false .sub (.r 6) (jc 1)), jn (.iaddr 1 (.r 5) (.r 7)), jn (.load false 1 (.r 8)), jn (.mov (.v 0)), jn (.mov (.v 8)), jn (.iaddr 1 (.r 10) (.r 11)), jn (.load false 1 (.r 12)), jn (.iaddr 1 (.r 0) (.r 1)), jn (.store 1 (.r 14) (.r 9)), jn (.iaddr 1 (.r 2) (.r 4)), jn (.store 1 (.r 16) (.r 13))])))
  (jr [jn (.mov (.v 8)), jn (.bin false .add (.r 0) (jc 1)), js 8 (.mov (.r 1))])))))) .skip))))))))
  (jr [jn (.mov (.v 6)), jn (.bin false .add (.r 0) (jc 1)), js 6 (.mov (.r 1))]))))))
  (.seq (jr [js 4 (.mov (.c (.bool false)))])
  .ret)))),
  [.v 4]⟩
def w6l : IFun := ⟨[0, 1, 2, 3, 4, 10, 11, 12, 47, 65, 70],
  (.seq (jr [js 5 (.mov (jc 0))])
  (.seq (.region true [] [jn (.mov (.v 0)), jn (.mov (.v 1)), jn (.mov (.v 0)), jn (.mov (.v 3)), jn (.mov (.v 0)), jn (.mov (.v 3)), jn (.iaddr 1 (.r 4) (.r 5)), jn (.load false 1 (.r 6)), jn (.mov (.v 0)), jn (.mov (.v 1)), jn (.iaddr 1 (.r 8) (.r 9)), jn (.load false 1 (.r 10)), jn (.iaddr 1 (.r 0) (.r 1)), jn (.store 1 (.r 12) (.r 7)), jn (.iaddr 1 (.r 2) (.r 3)), jn (.store 1 (.r 14) (.r 11))])
  (.seq (jr [jn (.mov (.v 1)), jn (.bin false .add (.r 0) (jc 1)), jn (.mov (.v 2)), jn (.bin false .sub (.r 2) (jc 1)), js 6 (.mov (.r 1)), js 7 (.mov (.r 3))])
  (.seq (.block 0 (.loop [true, true, false, false, true, false, true, true, false, false, false] (.block 1 (.seq (.block 2 (.loop [true, true, false, false, true, false, true, true, false, false, false] (.seq (.seq (.region true [] [jn (.mov (.v 6)), jn (.mov (.v 7)), jn (.bin false .leq (.r 0) (.r 1)), jn (.mov (.r 2)), jt 3 (.mov (.v 4)), jt 3 (.mov (.v 0)), jt 3 (.mov (.v 1)), jt 3 (.iaddr 1 (.r 5) (.r 6)), jt 3 (.load false 1 (.r 7)), jt 3 (.mov (.v 0)), jt 3 (.mov (.v 6)), jt 3 (.iaddr 1 (.r 9) (.r 10)), jt 3 (.load false 1 (.r 11)), jt 3 (.callv false (.r 4) [(.r 8), (.r 12)]), jt 3 (.bin false .lss (.r 13) (jc 0)), jt 3 (.not (.r 14)), js 8 (.pick (.r 3) (.r 15) (.c (.bool false)))])
  (.cond (.v 8) .skip (.exit 2)))
  (.block 3 (jr [jn (.mov (.v 6)), jn (.bin false .add (.r 0) (jc 1)), js 6 (.mov (.r 1))])))))
  (.seq (.block 4 (.loop [true, true, false, false, true, false, true, true, false, false, false] (.seq (.seq (.region true [] [jn (.mov (.v 6)), jn (.mov (.v 7)), jn (.bin false .leq (.r 0) (.r 1)), jn (.mov (.r 2)), jt 3 (.mov (.v 4)), jt 3 (.mov (.v 0)), jt 3 (.mov (.v 1)), jt 3 (.iaddr 1 (.r 5) (.r 6)), jt 3 (.load false 1 (.r 7)), jt 3 (.mov (.v 0)), jt 3 (.mov (.v 7)), jt 3 (.iaddr 1 (.r 9) (.r 10)), jt 3 (.load false 1 (.r 11)), jt 3 (.callv false (.r 4) [(.r 8), (.r 12)]), jt 3 (.bin false .lss (.r 13) (jc 0)), js 9 (.pick (.r 3) (.r 14) (.c (.bool false)))])
  (.cond (.v 9) .skip (.exit 4)))
  (.block 5 (jr [jn (.mov (.v 7)), jn (.bin false .sub (.r 0) (jc 1)), js 7 (.mov (.r 1))])))))
  (.seq (.seq (jr [jn (.mov (.v 6)), jn (.mov (.v 7)), js 10 (.bin false .gtr (.r 0) (.r 1))])
  (.cond (.v 10) (.exit 0) .skip))
  (.seq (.region true [] [jn (.mov (.v 0)), jn (.mov (.v 6)), jn (.mov (.v 0)), jn (.mov (.v 7)), jn (.mov (.v 0)), jn (.mov (.v 7)), jn (.iaddr 1 (.r 4) (.r 5)), jn (.load false 1 (.r 6)), jn (.mov (.v 0)), jn (.mov (.v 6)), jn (.iaddr 1 (.r 8) (.r 9)), jn (.load false 1 (.r 10)), jn (.iaddr 1 (.r 0) (.r 1)), jn (.store 1 (.r 12) (.r 7)), jn (.iaddr 1 (.r 2) (.r 3)), jn (.store 1 (.r 14) (.r 11))])
  (.seq (jr [jn (.mov (.v 6)), jn (.bin false .add (.r 0) (jc 1)), js 6 (.mov (.r 1))])
  (jr [jn (.mov (.v 7)), jn (.bin false .sub (.r 0) (jc 1)), js 7 (.mov (.r 1))])))))))))
  (.seq (jr [jn (.mov (.v 6)), js 5 (.mov (.r 0))])
  .ret))))),
  [.v 5]⟩
def w6k : IFun := ⟨[0, 1, 2, 3, 4, 10, 11, 12, 13, 47, 66, 71, 120, 139, 144],
  (.seq (jr [js 5 (.mov (jc 0)), js 6 (.mov (.c (.bool false)))])
  (.seq (.region true [] [jn (.mov (.v 0)), jn (.mov (.v 1)), jn (.mov (.v 0)), jn (.mov (.v 3)), jn (.mov (.v 0)), jn (.mov (.v 3)), jn (.iaddr 1 (.r 4) (.r 5)), jn (.load false 1 (.r 6)), jn (.mov (.v 0)), jn (.mov (.v 1)), jn (.iaddr 1 (.r 8) (.r 9)), jn (.load false 1 (.r 10)), jn (.iaddr 1 (.r 0) (.r 1)), jn (.store 1 (.r 12) (.r 7)), jn (.iaddr 1 (.r 2) (.r 3)), jn (.store 1 (.r 14) (.r 11))])
  (.seq (jr [jn (.mov (.v 1)), jn (.bin false .add (.r 0) (jc 1)), jn (.mov (.v 2)), jn (.bin false .sub (.r 2) (jc 1)), js 7 (.mov (.r 1)), js 8 (.mov (.r 3))])
  (.seq (.block 0 (.loop [true, true, false, false, true, false, false, true, true, false, false, false, false, false, false] (.seq (.seq (.region true [] [jn (.mov (.v 7)), jn (.mov (.v 8)), jn (.bin false .leq (.r 0) (.r 1)), jn (.mov (.r 2)), jt 3 (.mov (.v 4)), jt 3 (.mov (.v 0)), jt 3 (.mov (.v 7)), jt 3 (.iaddr 1 (.r 5) (.r 6)), jt 3 (.load false 1 (.r 7)), jt 3 (.mov (.v 0)), jt 3 (.mov (.v 1)), jt 3 (.iaddr 1 (.r 9) (.r 10)), jt 3 (.load false 1 (.r 11)), jt 3 (.callv false (.r 4) [(.r 8), (.r 12)]), jt 3 (.bin false .lss (.r 13) (jc 0)), js 9 (.pick (.r 3) (.r 14) (.c (.bool false)))])
  (.cond (.v 9) .skip (.exit 0)))
  (.block 1 (jr [jn (.mov (.v 7)), jn (.bin false .add (.r 0) (jc 1)), js 7 (.mov (.r 1))])))))
  (.seq (.block 2 (.loop [true, true, false, false, true, false, false, true, true, false, false, false, false, false, false] (.seq (.seq (.region true [] [jn (.mov (.v 7)), jn (.mov (.v 8)), jn (.bin false .leq (.r 0) (.r 1)), jn (.mov (.r 2)), jt 3 (.mov (.v 4)), jt 3 (.mov (.v 0)), jt 3 (.mov (.v 8)), jt 3 (.iaddr 1 (.r 5) (.r 6)), jt 3 (.load false 1 (.r 7)), jt 3 (.mov (.v 0)), jt 3 (.mov (.v 1)), jt 3 (.iaddr 1 (.r 9) (.r 10)), jt 3 (.load false 1 (.r 11)), jt 3 (.callv false (.r 4) [(.r 8), (.r 12)]), jt 3 (.bin false .lss (.r 13) (jc 0)), jt 3 (.not (.r 14)), js 10 (.pick (.r 3) (.r 15) (.c (.bool false)))])
  (.cond (.v 10) .skip (.exit 2)))
  (.block 3 (jr [jn (.mov (.v 8)), jn (.bin false .sub (.r 0) (jc 1)), js 8 (.mov (.r 1))])))))
  (.seq (.seq (jr [jn (.mov (.v 7)), jn (.mov (.v 8)), js 11 (.bin false .gtr (.r 0) (.r 1))])
  (.cond (.v 11) (.seq (.region true [] [jn (.mov (.v 0)), jn (.mov (.v 8)), jn (.mov (.v 0)), jn (.mov (.v 1)), jn (.mov (.v 0)), jn (.mov (.v 1)), jn (.iaddr 1 (.r 4) (.r 5)), jn (.load false 1 (.r 6)), jn (.mov (.v 0)), jn (.mov (.v 8)), jn (.iaddr 1 (.r 8) (.r 9)), jn (.load false 1 (.r 10)), jn (.iaddr 1 (.r 0) (.r 1)), jn (.store 1 (.r 12) (.r 7)), jn (.iaddr 1 (.r 2) (.r 3)), jn (.store 1 (.r 14) (.r 11))])
  (.seq (jr [jn (.mov (.v 8)), js 5 (.mov (.r 0)), js 6 (.mov (.c (.bool true)))])
  .ret)) .skip))
  (.seq (.region true [] [jn (.mov (.v 0)), jn (.mov (.v 7)), jn (.mov (.v 0)), jn (.mov (.v 8)), jn (.mov (.v 0)), jn (.mov (.v 8)), jn (.iaddr 1 (.r 4) (.r 5)), jn (.load false 1 (.r 6)), jn (.mov (.v 0)), jn (.mov (.v 7)), jn (.iaddr 1 (.r 8) (.r 9)), jn (.load false 1 (.r 10)), jn (.iaddr 1 (.r 0) (.r 1)), jn (.store 1 (.r 12) (.r 7)), jn (.iaddr 1 (.r 2) (.r 3)), jn (.store 1 (.r 14) (.r 11))])
  (.seq (jr [jn (.mov (.v 7)), jn (.bin false .add (.r 0) (jc 1)), js 7 (.mov (.r 1))])
  (.seq (jr [jn (.mov (.v 8)), jn (.bin false .sub (.r 0) (jc 1)), js 8 (.mov (.r 1))])
  (.seq (.block 4 (.loop [true, true, false, false, true, false, false, true, true, false, false, false, false, false, false] (.block 5 (.seq (.block 6 (.loop [true, true, false, false, true, false, false, true, true, false, false, false, false, false, false] (.seq (.seq (.region true [] [jn (.mov (.v 7)), jn (.mov (.v 8)), jn (.bin false .leq (.r 0) (.r 1)), jn (.mov (.r 2)), jt 3 (.mov (.v 4)), jt 3 (.mov (.v 0)), jt 3 (.mov (.v 7)), jt 3 (.iaddr 1 (.r 5) (.r 6)), jt 3 (.load false 1 (.r 7)), jt 3 (.mov (.v 0)), jt 3 (.mov (.v 1)), jt 3 (.iaddr 1 (.r 9) (.r 10)), jt 3 (.load false 1 (.r 11)), jt 3 (.callv false (.r 4) [(.r 8), (.r 12)]), jt 3 (.bin false .lss (.r 13) (jc 0)), js 12 (.pick (.r 3) (.r 14) (.c (.bool false)))])
  (.cond (.v 12) .skip (.exit 6)))
  (.block 7 (jr [jn (.mov (.v 7)), jn (.bin false .add (.r 0) (jc 1)), js 7 (.mov (.r 1))])))))
  (.seq (.block 8 (.loop [true, true, false, false, true, false, false, true, true, false, false, false, false, false, false] (.seq (.seq (.region true [] [jn (.mov (.v 7)), jn (.mov (.v 8)), jn (.bin false .leq (.r 0) (.r 1)), jn (.mov (.r 2)), jt 3 (.mov (.v 4)), jt 3 (.mov (.v 0)), jt 3 (.mov (.v 8)), jt 3 (.iaddr 1 (.r 5) (.r 6)), jt 3 (.load false 1 (.r 7)), jt 3 (.mov (.v 0)), jt 3 (.mov (.v 1)), jt 3 (.iaddr 1 (.r 9) (.r 10)), jt 3 (.load false 1 (.r 11)), jt 3 (.callv false (.r 4) [(.r 8), (.r 12)]), jt 3 (.bin false .lss (.r 13) (jc 0)), jt 3 (.not (.r 14)), js 13 (.pick (.r 3) (.r 15) (.c (.bool false)))])
  (.cond (.v 13) .skip (.exit 8)))
  (.block 9 (jr [jn (.mov (.v 8)), jn (.bin false .sub (.r 0) (jc 1)), js 8 (.mov (.r 1))])))))
  (.seq (.seq (jr [jn (.mov (.v 7)), jn (.mov (.v 8)), js 14 (.bin false .gtr (.r 0) (.r 1))])
  (.cond (.v 14) (.exit 4) .skip))
  (.seq (.region true [] [jn (.mov (.v 0)), jn (.mov (.v 7)), jn (.mov (.v 0)), jn (.mov (.v 8)), jn (.mov (.v 0)), jn (.mov (.v 8)), jn (.iaddr 1 (.r 4) (.r 5)), jn (.load false 1 (.r 6)), jn (.mov (.v 0)), jn (.mov (.v 7)), jn (.iaddr 1 (.r 8) (.r 9)), jn (.load false 1 (.r 10)), jn (.iaddr 1 (.r 0) (.r 1)), jn (.store 1 (.r 12) (.r 7)), jn (.iaddr 1 (.r 2) (.r 3)), jn (.store 1 (.r 14) (.r 11))])
  (.seq (jr [jn (.mov (.v 7)), jn (.bin false .add (.r 0) (jc 1)), js 7 (.mov (.r 1))])
  (jr [jn (.mov (.v 8)), jn (.bin false .sub (.r 0) (jc 1)), js 8 (.mov (.r 1))])))))))))
  (.seq (.region true [] [jn (.mov (.v 0)), jn (.mov (.v 8)), jn (.mov (.v 0)), jn (.mov (.v 1)), jn (.mov (.v 0)), jn (.mov (.v 1)), jn (.iaddr 1 (.r 4) (.r 5)), jn (.load false 1 (.r 6)), jn (.mov (.v 0)), jn (.mov (.v 8)), jn (.iaddr 1 (.r 8) (.r 9)), jn (.load false 1 (.r 10)), jn (.iaddr 1 (.r 0) (.r 1)), jn (.store 1 (.r 12) (.r 7)), jn (.iaddr 1 (.r 2) (.r 3)), jn (.store 1 (.r 14) (.r 11))])
  (.seq (jr [jn (.mov (.v 8)), js 5 (.mov (.r 0)), js 6 (.mov (.c (.bool false)))])
  .ret)))))))))))),
  [.v 5, .v 6]⟩
def w6m : IFun := ⟨[0, 1, 2, 3, 4, 10, 11, 12, 13, 14, 15, 16, 17, 18, 19, 20, 25, 32, 39, 56, 75, 80, 97, 125],
  (.seq (jr [js 5 (.mov (.c (.bool true)))])
  (.seq (jr [js 6 (.mov (.c (.bool true)))])
  (.block 0 (.loop [true, true, true, true, true, true, true, false, false, false, false, false, false, false, false, false, false, false, false, false, false, false, false, false] (.block 1 (.seq (jr [jn (.mov (.v 2)), jn (.mov (.v 1)), jn (.bin false .sub (.r 0) (.r 1)), js 7 (.mov (.r 2))])
  (.seq (.seq (jr [jn (.mov (.v 7)), js 16 (.bin false .leq (.r 0) (jc 12))])
  (.cond (.v 16) (.seq (jr [jn (.mov (.v 0)), jn (.mov (.v 1)), jn (.mov (.v 2)), jn (.mov (.v 4)), jn (.callm w4e [(.r 0), (.r 1), (.r 2), (.r 3)])])
  .ret) .skip))
  (.seq (.seq (jr [jn (.mov (.v 3)), js 17 (.bin false .eql (.r 0) (jc 0))])
  (.cond (.v 17) (.seq (jr [jn (.mov (.v 0)), jn (.mov (.v 1)), jn (.mov (.v 2)), jn (.mov (.v 4)), jn (.callm w4d [(.r 0), (.r 1), (.r 2), (.r 3)])])
  .ret) .skip))
  (.seq (.seq (jr [jn (.mov (.v 5)), js 18 (.not (.r 0))])
  (.cond (.v 18) (.seq (jr [jn (.mov (.v 0)), jn (.mov (.v 1)), jn (.mov (.v 2)), jn (.mov (.v 4)), jn (.callm w4b [(.r 0), (.r 1), (.r 2), (.r 3)])])
  (jr [jn (.mov (.v 3)), jn (.bin false .sub (.r 0) (jc 1)), js 3 (.mov (.r 1))])) .skip))
  (.seq (jr [jn (.mov (.v 0)), jn (.mov (.v 1)), jn (.mov (.v 2)), jn (.mov (.v 4)), jn (.callm w4c [(.r 0), (.r 1), (.r 2), (.r 3)]), jn (.mov (.r 4)), jn (.extract (.r 5) 0), jn (.extract (.r 5) 1), js 8 (.mov (.r 6)), js 9 (.mov (.r 7))])
  (.seq (.seq (jr [jn (.mov (.v 9)), js 19 (.bin false .eql (.r 0) (jc 2))])
  (.cond (.v 19) (.seq (jr [jn (.mov (.v 0)), jn (.mov (.v 1)), jn (.mov (.v 2)), jn (.mov (.v 4)), jn (.callm w4n [(.r 0), (.r 1), (.r 2), (.r 3)])])
  (.seq (jr [jn (.mov (.v 2)), jn (.bin false .sub (.r 0) (jc 1)), jn (.mov (.v 8)), jn (.mov (.v 1)), jn (.bin false .sub (.r 2) (.r 3)), jn (.bin false .sub (.r 1) (.r 4)), js 8 (.mov (.r 5))])
  (jr [js 9 (.mov (jc 1))]))) .skip))
  (.seq (.seq (jr [jn (.mov (.v 5)), jn (.mov (.r 0)), jt 1 (.mov (.v 6)), jn (.pick (.r 1) (.r 2) (.c (.bool false))), jn (.mov (.r 3)), jt 4 (.mov (.v 9)), jt 4 (.bin false .eql (.r 5) (jc 1)), js 20 (.pick (.r 4) (.r 6) (.c (.bool false)))])
  (.cond (.v 20) (.seq (jr [jn (.mov (.v 0)), jn (.mov (.v 1)), jn (.mov (.v 2)), jn (.mov (.v 4)), js 21 (.callm w4j [(.r 0), (.r 1), (.r 2), (.r 3)])])
  (.cond (.v 21) .ret .skip)) .skip))
  (.seq (.seq (.region true [] [jn (.mov (.v 1)), jn (.bin false .gtr (.r 0) (jc 0)), jn (.mov (.r 1)), jt 2 (.mov (.v 4)), jt 2 (.mov (.v 0)), jt 2 (.mov (.v 1)), jt 2 (.bin false .sub (.r 5) (jc 1)), jt 2 (.iaddr 1 (.r 4) (.r 6)), jt 2 (.load false 1 (.r 7)), jt 2 (.mov (.v 0)), jt 2 (.mov (.v 8)), jt 2 (.iaddr 1 (.r 9) (.r 10)), jt 2 (.load false 1 (.r 11)), jt 2 (.callv false (.r 3) [(.r 8), (.r 12)]), jt 2 (.bin false .lss (.r 13) (jc 0)), jt 2 (.not (.r 14)), js 22 (.pick (.r 2) (.r 15) (.c (.bool false)))])
  (.cond (.v 22) (.seq (jr [jn (.mov (.v 0)), jn (.mov (.v 1)), jn (.mov (.v 2)), jn (.mov (.v 8)), jn (.mov (.v 4)), jn (.callm w4l [(.r 0), (.r 1), (.r 2), (.r 3), (.r 4)]), js 10 (.mov (.r 5))])
  (.seq (jr [jn (.mov (.v 10)), js 1 (.mov (.r 0))])
  (.exit 1))) .skip))
  (.seq (jr [jn (.mov (.v 0)), jn (.mov (.v 1)), jn (.mov (.v 2)), jn (.mov (.v 8)), jn (.mov (.v 4)), jn (.callm w4k [(.r 0), (.r 1), (.r 2), (.r 3), (.r 4)]), jn (.mov (.r 5)), jn (.extract (.r 6) 0), jn (.extract (.r 6) 1), js 11 (.mov (.r 7)), js 12 (.mov (.r 8))])
  (.seq (jr [jn (.mov (.v 12)), js 6 (.mov (.r 0))])
  (.seq (jr [jn (.mov (.v 11)), jn (.mov (.v 1)), jn (.bin false .sub (.r 0) (.r 1)), jn (.mov (.v 2)), jn (.mov (.v 11)), jn (.bin false .sub (.r 3) (.r 4)), js 13 (.mov (.r 2)), js 14 (.mov (.r 5))])
  (.seq (jr [jn (.mov (.v 7)), jn (.bin false .quo (.r 0) (jc 8)), js 15 (.mov (.r 1))])
  (.seq (jr [jn (.mov (.v 13)), jn (.mov (.v 14)), js 23 (.bin false .lss (.r 0) (.r 1))])
  (.cond (.v 23) (.seq (jr [jn (.mov (.v 13)), jn (.mov (.v 15)), jn (.bin false .geq (.r 0) (.r 1)), js 5 (.mov (.r 2))])
  (.seq (jr [jn (.mov (.v 0)), jn (.mov (.v 1)), jn (.mov (.v 11)), jn (.mov (.v 3)), jn (.mov (.v 4)), jn (.callm w4m [(.r 0), (.r 1), (.r 2), (.r 3), (.r 4)])])
  (jr [jn (.mov (.v 11)), jn (.bin false .add (.r 0) (jc 1)), js 1 (.mov (.r 1))]))) (.seq (jr [jn (.mov (.v 14)), jn (.mov (.v 15)), jn (.bin false .geq (.r 0) (.r 1)), js 5 (.mov (.r 2))])
  (.seq (jr [jn (.mov (.v 0)), jn (.mov (.v 11)), jn (.bin false .add (.r 1) (jc 1)), jn (.mov (.v 2)), jn (.mov (.v 3)), jn (.mov (.v 4)), jn (.callm w4m [(.r 0), (.r 2), (.r 3), (.r 4), (.r 5)])])
  (jr [jn (.mov (.v 11)), js 2 (.mov (.r 0))])))))))))))))))))))))),
  []⟩
def w6a : IFun := ⟨[0, 1, 4],
  (.seq (jr [jn (.mov (.v 0)), jn (.len false (.r 0)), js 2 (.mov (.r 1))])
  (jr [jn (.mov (.v 0)), jn (.mov (.v 2)), jn (.mov (.v 2)), jn (.conv .u64 (.r 2)), jn (.call false w40 [(.r 3)]), jn (.mov (.v 1)), jn (.callm w4m [(.r 0), (jc 0), (.r 1), (.r 4), (.r 5)])])),
  []⟩
def w5n : IFun := ⟨[0, 2],
  (.seq (jr [js 1 (.mov (.c (.bool false)))])
  (.seq (jr [jn (.mov (.v 0)), jn (.mov (.v 0)), jn (.bin false .neq (.r 0) (.r 1)), js 1 (.mov (.r 2))])
  .ret)),
  [.v 1]⟩
def w5m : IFun := ⟨[0, 1, 4, 5, 6, 11, 12, 13, 16, 19],
  (.seq (jr [js 2 (.mov (jc 0))])
  (.seq (jr [jn (.mov (.v 0)), jn (.call false w3l [(.r 0)]), js 3 (.mov (.r 1))])
  (.seq (jr [jn (.mov (.v 1)), jn (.call false w3l [(.r 0)]), js 4 (.mov (.r 1))])
  (.seq (.seq (jr [js 5 (.mov (.v 3))])
  (.cond (.v 5) (.seq (.seq (jr [js 6 (.mov (.v 4))])
  (.cond (.v 6) (.seq (jr [js 2 (.mov (jc 0))])
  .ret) .skip))
  (.seq (jr [js 2 (.mov (jc (-1)))])
  .ret)) .skip))
  (.seq (.seq (jr [js 7 (.mov (.v 4))])
  (.cond (.v 7) (.seq (jr [js 2 (.mov (jc 1))])
  .ret) .skip))
  (.seq (.seq (jr [jn (.mov (.v 0)), jn (.mov (.v 1)), js 8 (.bin false .lss (.r 0) (.r 1))])
  (.cond (.v 8) (.seq (jr [js 2 (.mov (jc (-1)))])
  .ret) .skip))
  (.seq (.seq (jr [jn (.mov (.v 0)), jn (.mov (.v 1)), js 9 (.bin false .gtr (.r 0) (.r 1))])
  (.cond (.v 9) (.seq (jr [js 2 (.mov (jc 1))])
  .ret) .skip))
  (.seq (jr [js 2 (.mov (jc 0))])
  .ret)))))))),
  [.v 2]⟩
def w66 : IFun := ⟨[0, 1, 4, 5, 6, 7, 8, 9, 10, 11, 12, 19, 28, 35],
  (.seq (jr [js 2 (.mov (jc 0))])
  (.seq (.seq (jr [js 7 (.mov (.v 0)), js 8 (.len false (.v 7)), js 9 (.mov (jc 0))])
  (.block 0 (.loop [true, true, false, false, false, false, false, true, true, true, false, false, false, false] (.seq (jr [js 10 (.bin false .lss (.v 9) (.v 8))])
  (.seq (.cond (.v 10) .skip (.exit 0))
  (.seq (.block 1 (.seq (jr [jn (.mov (.v 9)), jn (.iaddr 1 (.v 7) (.v 9)), jn (.load false 1 (.r 1)), js 3 (.mov (.r 0)), js 4 (.mov (.r 2))])
  (.seq (.seq (jr [jn (.mov (.v 3)), jn (.mov (.v 1)), jn (.len false (.r 1)), js 11 (.bin false .geq (.r 0) (.r 2))])
  (.cond (.v 11) (.seq (jr [js 2 (.mov (jc 1))])
  .ret) .skip))
  (.seq (jr [jn (.mov (.v 1)), jn (.mov (.v 3)), jn (.iaddr 1 (.r 0) (.r 1)), jn (.load false 1 (.r 2)), js 5 (.mov (.r 3))])
  (.seq (jr [jn (.mov (.v 4)), jn (.mov (.v 5)), jn (.call false w3k [(.r 0), (.r 1)]), js 6 (.mov (.r 2))])
  (.seq (jr [jn (.mov (.v 6)), js 12 (.bin false .neq (.r 0) (jc 0))])
  (.cond (.v 12) (.seq (jr [jn (.mov (.v 6)), js 2 (.mov (.r 0))])
  .ret) .skip)))))))
  (jr [jn (.bin false .add (.v 9) (jc 1)), js 9 (.mov (.r 0))])))))))
  (.seq (.seq (jr [jn (.mov (.v 0)), jn (.len false (.r 0)), jn (.mov (.v 1)), jn (.len false (.r 2)), js 13 (.bin false .lss (.r 1) (.r 3))])
  (.cond (.v 13) (.seq (jr [js 2 (.mov (jc (-1)))])
  .ret) .skip))
  (.seq (jr [js 2 (.mov (jc 0))])
  .ret)))),
  [.v 2]⟩
def w65 : IFun := ⟨[0, 1, 4, 5, 6, 7, 10, 15, 28, 35, 49],
  (.seq (jr [js 2 (.nilrow w8t false 1)])
  (.seq (.seq (jr [jn (.mov (.v 0)), jn (.len false (.r 0)), js 6 (.bin false .lss (.r 1) (jc 2))])
  (.cond (.v 6) (.seq (jr [jn (.mov (.v 0)), js 2 (.mov (.r 0))])
  .ret) .skip))
  (.seq (.seq (jr [js 3 (.mov (jc 1))])
  (.block 0 (.loop [true, true, false, true, false, false, false, false, false, false, false] (.seq (.seq (jr [jn (.mov (.v 3)), jn (.mov (.v 0)), jn (.len false (.r 1)), js 7 (.bin false .lss (.r 0) (.r 2))])
  (.cond (.v 7) .skip (.exit 0)))
  (.seq (.block 1 (.seq (.region true [] [jn (.mov (.v 1)), jn (.mov (.v 0)), jn (.mov (.v 3)), jn (.iaddr 1 (.r 1) (.r 2)), jn (.load false 1 (.r 3)), jn (.mov (.v 0)), jn (.mov (.v 3)), jn (.bin false .sub (.r 6) (jc 1)), jn (.iaddr 1 (.r 5) (.r 7)), jn (.load false 1 (.r 8)), js 8 (.callv false (.r 0) [(.r 4), (.r 9)])])
  (.cond (.v 8) (.seq (jr [jn (.mov (.v 0)), jn (.mov (.v 3)), jn (.slice 1 (.r 0) (some (.r 1)) none), js 4 (.mov (.r 2))])
  (.seq (.seq (jr [js 5 (.mov (jc 1))])
  (.block 2 (.loop [true, true, false, true, true, true, false, false, false, false, false] (.seq (.seq (jr [jn (.mov (.v 5)), jn (.mov (.v 4)), jn (.len false (.r 1)), js 9 (.bin false .lss (.r 0) (.r 2))])
  (.cond (.v 9) .skip (.exit 2)))
  (.seq (.block 3 (.seq (.region true [] [jn (.mov (.v 1)), jn (.mov (.v 4)), jn (.mov (.v 5)), jn (.iaddr 1 (.r 1) (.r 2)), jn (.load false 1 (.r 3)), jn (.mov (.v 4)), jn (.mov (.v 5)), jn (.bin false .sub (.r 6) (jc 1)), jn (.iaddr 1 (.r 5) (.r 7)), jn (.load false 1 (.r 8)), jn (.callv false (.r 0) [(.r 4), (.r 9)]), js 10 (.not (.r 10))])
  (.cond (.v 10) (.seq (jr [jn (.mov (.v 0)), jn (.mov (.v 3)), jn (.mov (.v 4)), jn (.mov (.v 5)), jn (.iaddr 1 (.r 2) (.r 3)), jn (.load false 1 (.r 4)), jn (.iaddr 1 (.r 0) (.r 1)), jn (.store 1 (.r 6) (.r 5))])
  (jr [jn (.mov (.v 3)), jn (.bin false .add (.r 0) (jc 1)), js 3 (.mov (.r 1))])) .skip)))
  (jr [jn (.mov (.v 5)), jn (.bin false .add (.r 0) (jc 1)), js 5 (.mov (.r 1))]))))))
  (.seq (jr [jn (.mov (.v 0)), jn (.mov (.v 3)), jn (.slice 1 (.r 0) (some (.r 1)) none), jn (.clr (.nil true 1) (.r 2))])
  (.seq (jr [jn (.mov (.v 0)), jn (.mov (.v 3)), jn (.slice 1 (.r 0) none (some (.r 1))), js 2 (.mov (.r 2))])
  .ret)))) .skip)))
  (jr [jn (.mov (.v 3)), jn (.bin false .add (.r 0) (jc 1)), js 3 (.mov (.r 1))]))))))
  (.seq (jr [jn (.mov (.v 0)), js 2 (.mov (.r 0))])
  .ret)))),
  [.v 2]⟩
def w68 : IFun := ⟨[0, 1, 4, 5, 10, 12, 13, 14, 24],
  (.seq (jr [js 2 (.mov (.c (.bool false)))])
  (.seq (.seq (jr [jn (.mov (.v 0)), jn (.len false (.r 0)), jn (.mov (.v 1)), jn (.len false (.r 2)), js 4 (.bin false .neq (.r 1) (.r 3))])
  (.cond (.v 4) (.seq (jr [js 2 (.mov (.c (.bool false)))])
  .ret) .skip))
  (.seq (.seq (jr [jn (.mov (.v 0)), js 5 (.len false (.r 0)), js 6 (.mov (jc 0))])
  (.block 0 (.loop [true, true, false, false, false, true, true, false, false] (.seq (jr [js 7 (.bin false .lss (.v 6) (.v 5))])
  (.seq (.cond (.v 7) .skip (.exit 0))
  (.seq (.block 1 (.seq (jr [jn (.mov (.v 6)), js 3 (.mov (.r 0))])
  (.seq (.region true [] [jn (.mov (.v 0)), jn (.mov (.v 3)), jn (.iaddr 1 (.r 0) (.r 1)), jn (.load false 1 (.r 2)), jn (.mov (.v 1)), jn (.mov (.v 3)), jn (.iaddr 1 (.r 4) (.r 5)), jn (.load false 1 (.r 6)), js 8 (.bin false .neq (.r 3) (.r 7))])
  (.cond (.v 8) (.seq (jr [js 2 (.mov (.c (.bool false)))])
  .ret) .skip))))
  (jr [jn (.bin false .add (.v 6) (jc 1)), js 6 (.mov (.r 0))])))))))
  (.seq (jr [js 2 (.mov (.c (.bool true)))])
  .ret)))),
  [.v 2]⟩
def w5v : IFun := ⟨[0, 1, 4, 5, 6, 7, 8, 9, 10, 19],
  (.seq (jr [js 2 (.mov (.c (.bool false)))])
  (.seq (.seq (jr [js 5 (.mov (.v 0)), js 6 (.len false (.v 5)), js 7 (.mov (jc 0))])
  (.block 0 (.loop [false, true, false, false, false, true, true, true, false, false] (.seq (jr [js 8 (.bin false .lss (.v 7) (.v 6))])
  (.seq (.cond (.v 8) .skip (.exit 0))
  (.seq (.block 1 (.seq (jr [jn (.mov (.v 7)), jn (.iaddr 1 (.v 5) (.v 7)), jn (.load false 1 (.r 1)), js 3 (.mov (.r 0)), js 4 (.mov (.r 2))])
  (.seq (jr [jn (.mov (.v 4)), jn (.mov (.v 1)), jn (.mov (.v 3)), jn (.iaddr 1 (.r 1) (.r 2)), jn (.load false 1 (.r 3)), js 9 (.bin false .lss (.r 0) (.r 4))])
  (.cond (.v 9) (.seq (jr [js 2 (.mov (.c (.bool false)))])
  .ret) .skip))))
  (jr [jn (.bin false .add (.v 7) (jc 1)), js 7 (.mov (.r 0))])))))))
  (.seq (jr [js 2 (.mov (.c (.bool true)))])
  .ret))),
  [.v 2]⟩
def w5w : IFun := ⟨[0, 2, 3, 4, 5, 6, 7, 8, 9, 16, 17, 18, 19, 23, 24, 25, 26, 43],
  (.seq (jr [js 1 (.nilrow w8t false 1)])
  (.seq (jr [jn (.mov (.v 0)), jn (.call false w44 [(.r 0)]), js 2 (.mov (.r 1))])
  (.seq (jr [jn (.mov (.v 2)), jn (.callm w4a [(.r 0), (.c (.clo w46 []))])])
  (.seq (jr [jn (.mov (.v 2)), jn (.callm w45 [(.r 0), (.c (.clo w48 []))]), js 2 (.mov (.r 1))])
  (.seq (jr [js 3 (.nilrow w8t false 1)])
  (.seq (.seq (jr [js 9 (.mov (.v 2)), js 10 (.len false (.v 9)), js 11 (.mov (jc 0))])
  (.block 0 (.loop [false, false, true, true, false, false, false, false, false, true, true, true, false, false, false, false, false, false] (.seq (jr [js 12 (.bin false .lss (.v 11) (.v 10))])
  (.seq (.cond (.v 12) .skip (.exit 0))
  (.seq (.block 1 (.seq (jr [jn (.mov (.v 11)), jn (.iaddr 1 (.v 9) (.v 11)), jn (.load false 1 (.r 1)), js 4 (.mov (.r 0)), js 5 (.mov (.r 2))])
  (.seq (jr [js 6 (.mov (.c (.bool true)))])
  (.seq (.seq (jr [js 13 (.mov (.v 2)), js 14 (.len false (.v 13)), js 15 (.mov (jc 0))])
  (.block 2 (.loop [false, false, true, true, true, true, true, false, false, true, true, true, false, true, true, true, false, false] (.seq (jr [js 16 (.bin false .lss (.v 15) (.v 14))])
  (.seq (.cond (.v 16) .skip (.exit 2))
  (.seq (.block 3 (.seq (jr [jn (.mov (.v 15)), jn (.iaddr 1 (.v 13) (.v 15)), jn (.load false 1 (.r 1)), js 7 (.mov (.r 0)), js 8 (.mov (.r 2))])
  (jr [jn (.mov (.v 6)), jn (.mov (.r 0)), jt 1 (.mov (.v 4)), jt 1 (.mov (.v 7)), jt 1 (.bin false .eql (.r 2) (.r 3)), jt 1 (.mov (.r 4)), jf 5 (.mov (.v 5)), jf 5 (.mov (.v 8)), jf 5 (.call false w3t [(.r 6), (.r 7)]), jf 5 (.not (.r 8)), jt 1 (.pick (.r 5) (.c (.bool true)) (.r 9)), jn (.pick (.r 1) (.r 10) (.c (.bool false))), js 6 (.mov (.r 11))])))
  (jr [jn (.bin false .add (.v 15) (jc 1)), js 15 (.mov (.r 0))])))))))
  (.seq (jr [js 17 (.mov (.v 6))])
  (.cond (.v 17) (jr [jn (.mov (.v 3)), jn (.mov (.v 5)), jn (.call false w43 [(.r 1)]), jn (.bslice false w8t false 1 [(.r 2)]), jn (.append w8t false 1 (.r 0) (.r 3)), js 3 (.mov (.r 4))]) .skip))))))
  (jr [jn (.bin false .add (.v 11) (jc 1)), js 11 (.mov (.r 0))])))))))
  (.seq (jr [jn (.mov (.v 3)), js 1 (.mov (.r 0))])
  .ret))))))),
  [.v 1]⟩
def w5r : IFun := ⟨[0, 1, 4, 5, 19],
  (.seq (jr [js 2 (.nilrow w8t false 1), js 3 (.mov (.c (.bool false)))])
  (.seq (.seq (jr [jn (.mov (.v 0)), jn (.call false w3v [(.r 0), (jc 1), (jc 16)]), jn (.not (.r 1)), jn (.mov (.r 2)), jf 3 (.mov (.v 1)), jf 3 (.len false (.r 4)), jf 3 (.bin false .gtr (.r 5) (jc 400)), jn (.pick (.r 3) (.c (.bool true)) (.r 6)), jn (.mov (.r 7)), jf 8 (.mov (.v 0)), jf 8 (.mov (.v 1)), jf 8 (.call false w3r [(.r 9), (.r 10)]), jf 8 (.not (.r 11)), js 4 (.pick (.r 8) (.c (.bool true)) (.r 12))])
  (.cond (.v 4) (.seq (jr [js 2 (.nilrow w8t false 1), js 3 (.mov (.c (.bool false)))])
  .ret) .skip))
  (.seq (jr [jn (.mov (.v 1)), jn (.call false w3u [(.r 0)]), js 2 (.mov (.r 1)), js 3 (.mov (.c (.bool true)))])
  .ret))),
  [.v 2, .v 3]⟩
def w75 : IFun := ⟨[0, 1, 2, 6],
  (.seq (jr [js 3 (.mov (.c (.bool false)))])
  (.seq (jr [jn (.mov (.v 0)), jn (.mov (.v 1)), jn (.bin false .geq (.r 0) (.r 1)), jn (.mov (.r 2)), jt 3 (.mov (.v 0)), jt 3 (.mov (.v 2)), jt 3 (.bin false .leq (.r 4) (.r 5)), jn (.pick (.r 3) (.r 6) (.c (.bool false))), js 3 (.mov (.r 7))])
  .ret)),
  [.v 3]⟩
def w79 : IFun := ⟨[0, 2],
  (.seq (jr [js 1 (.mov (.c (.bool false)))])
  (.seq (jr [jn (.mov (.v 0)), jn (.call false w55 [(.r 0), (jc 1), (jc 16)]), js 1 (.mov (.r 1))])
  .ret)),
  [.v 1]⟩
def w6w : IFun := ⟨[0, 1, 2, 6, 8, 9, 10, 11, 12, 19],
  (.seq (jr [js 3 (.mov (.c (.bool false)))])
  (.seq (.seq (jr [js 5 (.mov (.v 0)), js 6 (.len false (.v 5)), js 7 (.mov (jc 0))])
  (.block 0 (.loop [false, true, true, false, false, true, true, true, false, false] (.seq (jr [js 8 (.bin false .lss (.v 7) (.v 6))])
  (.seq (.cond (.v 8) .skip (.exit 0))
  (.seq (.block 1 (.seq (jr [jn (.iaddr 1 (.v 5) (.v 7)), jn (.load false 1 (.r 0)), js 4 (.mov (.r 1))])
  (.seq (jr [jn (.mov (.v 4)), jn (.mov (.v 1)), jn (.mov (.v 2)), jn (.call false w55 [(.r 0), (.r 1), (.r 2)]), js 9 (.not (.r 3))])
  (.cond (.v 9) (.seq (jr [js 3 (.mov (.c (.bool false)))])
  .ret) .skip))))
  (jr [jn (.bin false .add (.v 7) (jc 1)), js 7 (.mov (.r 0))])))))))
  (.seq (jr [js 3 (.mov (.c (.bool true)))])
  .ret))),
  [.v 3]⟩
def w6u : IFun := ⟨[0, 1, 4],
  (.seq (jr [js 2 (.mov (.c (.bool false)))])
  (.seq (jr [jn (.mov (.v 0)), jn (.call false w59 [(.r 0)]), jn (.mov (.r 1)), jt 2 (.mov (.v 1)), jt 2 (.len false (.r 3)), jt 2 (.mov (.v 0)), jt 2 (.bin false .eql (.r 4) (.r 5)), jn (.pick (.r 2) (.r 6) (.c (.bool false))), jn (.mov (.r 7)), jt 8 (.mov (.v 1)), jt 8 (.call false w4w [(.r 9), (jc 0), (jc 50)]), jn (.pick (.r 8) (.r 10) (.c (.bool false))), js 2 (.mov (.r 11))])
  .ret)),
  [.v 2]⟩
def w6y : IFun := ⟨[0, 1, 4, 5, 6, 7, 8, 9, 10, 19],
  (.seq (jr [js 2 (.mov (.c (.bool false)))])
  (.seq (.seq (jr [js 5 (.mov (.v 1)), js 6 (.len false (.v 5)), js 7 (.mov (jc 0))])
  (.block 0 (.loop [true, false, false, false, false, true, true, true, false, false] (.seq (jr [js 8 (.bin false .lss (.v 7) (.v 6))])
  (.seq (.cond (.v 8) .skip (.exit 0))
  (.seq (.block 1 (.seq (jr [jn (.mov (.v 7)), jn (.iaddr 1 (.v 5) (.v 7)), jn (.load false 1 (.r 1)), js 3 (.mov (.r 0)), js 4 (.mov (.r 2))])
  (.seq (jr [jn (.mov (.v 0)), jn (.mov (.v 3)), jn (.iaddr 1 (.r 0) (.r 1)), jn (.load false 1 (.r 2)), jn (.mov (.v 4)), js 9 (.bin false .lss (.r 3) (.r 4))])
  (.cond (.v 9) (.seq (jr [js 2 (.mov (.c (.bool false)))])
  .ret) .skip))))
  (jr [jn (.bin false .add (.v 7) (jc 1)), js 7 (.mov (.r 0))])))))))
  (.seq (jr [js 2 (.mov (.c (.bool true)))])
  .ret))),
  [.v 2]⟩
def w7a : IFun := ⟨[0, 1, 4, 5, 10, 12, 13, 14, 24],
  (.seq (jr [js 2 (.mov (.c (.bool false)))])
  (.seq (.seq (jr [jn (.mov (.v 0)), jn (.len false (.r 0)), jn (.mov (.v 1)), jn (.len false (.r 2)), js 4 (.bin false .neq (.r 1) (.r 3))])
  (.cond (.v 4) (.seq (jr [js 2 (.mov (.c (.bool false)))])
  .ret) .skip))
  (.seq (.seq (jr [jn (.mov (.v 0)), js 5 (.len false (.r 0)), js 6 (.mov (jc 0))])
  (.block 0 (.loop [true, true, false, false, false, true, true, false, false] (.seq (jr [js 7 (.bin false .lss (.v 6) (.v 5))])
  (.seq (.cond (.v 7) .skip (.exit 0))
  (.seq (.block 1 (.seq (jr [jn (.mov (.v 6)), js 3 (.mov (.r 0))])
  (.seq (.region true [] [jn (.mov (.v 0)), jn (.mov (.v 3)), jn (.iaddr 1 (.r 0) (.r 1)), jn (.load false 1 (.r 2)), jn (.mov (.v 1)), jn (.mov (.v 3)), jn (.iaddr 1 (.r 4) (.r 5)), jn (.load false 1 (.r 6)), js 8 (.bin false .neq (.r 3) (.r 7))])
  (.cond (.v 8) (.seq (jr [js 2 (.mov (.c (.bool false)))])
  .ret) .skip))))
  (jr [jn (.bin false .add (.v 6) (jc 1)), js 6 (.mov (.r 0))])))))))
  (.seq (jr [js 2 (.mov (.c (.bool true)))])
  .ret)))),
  [.v 2]⟩
def w78 : IFun := ⟨[0, 2],
  (.seq (jr [js 1 (.nilrow t_int true 1)])
  (.seq (jr [jn (.bslice false t_int true 1 []), jn (.mov (.v 0)), jn (.append t_int true 1 (.r 0) (.r 1)), js 1 (.mov (.r 2))])
  .ret)),
  [.v 1]⟩
def w6x : IFun := ⟨[0, 1, 4, 5, 7, 8, 9, 19, 28],
  (.seq (jr [js 2 (.mov (jc 0))])
  (.seq (.seq (jr [jn (.mov (.v 0)), js 4 (.len false (.r 0)), js 5 (.mov (jc 0))])
  (.block 0 (.loop [true, true, false, false, true, true, false, false, false] (.seq (jr [js 6 (.bin false .lss (.v 5) (.v 4))])
  (.seq (.cond (.v 6) .skip (.exit 0))
  (.seq (.block 1 (.seq (jr [jn (.mov (.v 5)), js 3 (.mov (.r 0))])
  (.seq (.seq (.region true [] [jn (.mov (.v 0)), jn (.mov (.v 3)), jn (.iaddr 1 (.r 0) (.r 1)), jn (.load false 1 (.r 2)), jn (.mov (.v 1)), jn (.mov (.v 3)), jn (.iaddr 1 (.r 4) (.r 5)), jn (.load false 1 (.r 6)), js 7 (.bin false .lss (.r 3) (.r 7))])
  (.cond (.v 7) (.seq (jr [js 2 (.mov (jc (-1)))])
  .ret) .skip))
  (.seq (.region true [] [jn (.mov (.v 0)), jn (.mov (.v 3)), jn (.iaddr 1 (.r 0) (.r 1)), jn (.load false 1 (.r 2)), jn (.mov (.v 1)), jn (.mov (.v 3)), jn (.iaddr 1 (.r 4) (.r 5)), jn (.load false 1 (.r 6)), js 8 (.bin false .gtr (.r 3) (.r 7))])
  (.cond (.v 8) (.seq (jr [js 2 (.mov (jc 1))])
  .ret) .skip)))))
  (jr [jn (.bin false .add (.v 5) (jc 1)), js 5 (.mov (.r 0))])))))))
  (.seq (jr [js 2 (.mov (jc 0))])
  .ret))),
  [.v 2]⟩
def w76 : IFun := ⟨[0, 1, 4, 5, 6, 8, 9, 10, 11, 12, 13, 20, 27, 38],
  (.seq (jr [js 2 (.nilrow w8t false 1)])
  (.seq (jr [js 3 (.nilrow w8t false 1)])
  (.seq (jr [js 4 (.mov (.c (.bool false)))])
  (.seq (.seq (jr [js 7 (.mov (.v 0)), js 8 (.len false (.v 7)), js 9 (.mov (jc 0))])
  (.block 0 (.loop [true, true, false, true, true, false, false, true, true, true, false, false, false, false] (.seq (jr [js 10 (.bin false .lss (.v 9) (.v 8))])
  (.seq (.cond (.v 10) .skip (.exit 0))
  (.seq (.block 1 (.seq (jr [jn (.iaddr 1 (.v 7) (.v 9)), jn (.load false 1 (.r 0)), js 5 (.mov (.r 1))])
  (.seq (jr [jn (.mov (.v 1)), jn (.mov (.v 5)), jn (.call false w4x [(.r 0), (.r 1)]), js 6 (.mov (.r 2))])
  (.seq (.seq (jr [jn (.mov (.v 6)), js 11 (.bin false .eql (.r 0) (jc 0))])
  (.cond (.v 11) (.seq (jr [jn (.mov (.v 0)), js 2 (.mov (.r 0))])
  .ret) .skip))
  (.seq (.seq (jr [jn (.mov (.v 6)), jn (.bin false .lss (.r 0) (jc 0)), jn (.mov (.r 1)), jt 2 (.mov (.v 4)), jt 2 (.not (.r 3)), js 12 (.pick (.r 2) (.r 4) (.c (.bool false)))])
  (.cond (.v 12) (.seq (jr [jn (.mov (.v 3)), jn (.mov (.v 1)), jn (.bslice false w8t false 1 [(.r 1)]), jn (.append w8t false 1 (.r 0) (.r 2)), js 3 (.mov (.r 3))])
  (jr [js 4 (.mov (.c (.bool true)))])) .skip))
  (jr [jn (.mov (.v 3)), jn (.mov (.v 5)), jn (.bslice false w8t false 1 [(.r 1)]), jn (.append w8t false 1 (.r 0) (.r 2)), js 3 (.mov (.r 3))]))))))
  (jr [jn (.bin false .add (.v 9) (jc 1)), js 9 (.mov (.r 0))])))))))
  (.seq (.seq (jr [jn (.mov (.v 4)), js 13 (.not (.r 0))])
  (.cond (.v 13) (jr [jn (.mov (.v 3)), jn (.mov (.v 1)), jn (.bslice false w8t false 1 [(.r 1)]), jn (.append w8t false 1 (.r 0) (.r 2)), js 3 (.mov (.r 3))]) .skip))
  (.seq (jr [jn (.mov (.v 3)), js 2 (.mov (.r 0))])
  .ret)))))),
  [.v 2]⟩
def w77 : IFun := ⟨[0, 2, 3, 5, 6, 8, 9, 10, 11, 12, 15, 16, 17, 18, 34],
  (.seq (jr [js 1 (.nilrow w8t false 1)])
  (.seq (jr [js 2 (.nilrow w8t false 1)])
  (.seq (.seq (jr [js 6 (.mov (.v 0)), js 7 (.len false (.v 6)), js 8 (.mov (jc 0))])
  (.block 0 (.loop [true, false, true, false, false, false, true, true, true, false, false, false, false, false, false] (.seq (jr [js 9 (.bin false .lss (.v 8) (.v 7))])
  (.seq (.cond (.v 9) .skip (.exit 0))
  (.seq (.block 1 (.seq (jr [jn (.iaddr 1 (.v 6) (.v 8)), jn (.load false 1 (.r 0)), js 3 (.mov (.r 1))])
  (.seq (jr [js 4 (.mov (.c (.bool true)))])
  (.seq (.seq (jr [js 10 (.mov (.v 0)), js 11 (.len false (.v 10)), js 12 (.mov (jc 0))])
  (.block 2 (.loop [true, false, true, true, true, false, true, true, true, false, true, true, true, false, false] (.seq (jr [js 13 (.bin false .lss (.v 12) (.v 11))])
  (.seq (.cond (.v 13) .skip (.exit 2))
  (.seq (.block 3 (.seq (jr [jn (.iaddr 1 (.v 10) (.v 12)), jn (.load false 1 (.r 0)), js 5 (.mov (.r 1))])
  (jr [jn (.mov (.v 4)), jn (.mov (.r 0)), jt 1 (.mov (.v 3)), jt 1 (.mov (.v 5)), jt 1 (.call false w4y [(.r 2), (.r 3)]), jt 1 (.not (.r 4)), jt 1 (.mov (.r 5)), jf 6 (.mov (.v 3)), jf 6 (.mov (.v 5)), jf 6 (.call false w5a [(.r 7), (.r 8)]), jt 1 (.pick (.r 6) (.c (.bool true)) (.r 9)), jn (.pick (.r 1) (.r 10) (.c (.bool false))), js 4 (.mov (.r 11))])))
  (jr [jn (.bin false .add (.v 12) (jc 1)), js 12 (.mov (.r 0))])))))))
  (.seq (jr [js 14 (.mov (.v 4))])
  (.cond (.v 14) (jr [jn (.mov (.v 2)), jn (.mov (.v 3)), jn (.call false w58 [(.r 1)]), jn (.call false w56 [(.r 0), (.r 2)]), js 2 (.mov (.r 3))]) .skip))))))
  (jr [jn (.bin false .add (.v 8) (jc 1)), js 8 (.mov (.r 0))])))))))
  (.seq (jr [jn (.mov (.v 2)), js 1 (.mov (.r 0))])
  .ret)))),
  [.v 1]⟩
def w6v : IFun := ⟨[0, 1, 4, 5, 7, 15, 16, 17, 18, 19, 25],
  (.seq (jr [js 2 (.nilrow w8t false 1), js 3 (.mov (.c (.bool false)))])
  (.seq (.seq (jr [jn (.mov (.v 0)), jn (.call false w59 [(.r 0)]), jn (.not (.r 1)), jn (.mov (.r 2)), jf 3 (.mov (.v 1)), jf 3 (.len false (.r 4)), jf 3 (.bin false .gtr (.r 5) (jc 400)), js 5 (.pick (.r 3) (.c (.bool true)) (.r 6))])
  (.cond (.v 5) (.seq (jr [js 2 (.nilrow w8t false 1), js 3 (.mov (.c (.bool false)))])
  .ret) .skip))
  (.seq (.seq (jr [js 6 (.mov (.v 1)), js 7 (.len false (.v 6)), js 8 (.mov (jc 0))])
  (.block 0 (.loop [true, true, false, false, false, false, true, true, true, false, false] (.seq (jr [js 9 (.bin false .lss (.v 8) (.v 7))])
  (.seq (.cond (.v 9) .skip (.exit 0))
  (.seq (.block 1 (.seq (jr [jn (.iaddr 1 (.v 6) (.v 8)), jn (.load false 1 (.r 0)), js 4 (.mov (.r 1))])
  (.seq (jr [jn (.mov (.v 0)), jn (.mov (.v 4)), jn (.call false w4u [(.r 0), (.r 1)]), js 10 (.not (.r 2))])
  (.cond (.v 10) (.seq (jr [js 2 (.nilrow w8t false 1), js 3 (.mov (.c (.bool false)))])
  .ret) .skip))))
  (jr [jn (.bin false .add (.v 8) (jc 1)), js 8 (.mov (.r 0))])))))))
  (.seq (jr [jn (.mov (.v 1)), jn (.call false w57 [(.r 0)]), js 2 (.mov (.r 1)), js 3 (.mov (.c (.bool true)))])
  .ret)))),
  [.v 2, .v 3]⟩
def w60 : IFun := ⟨[0, 1, 4, 5, 10, 12, 13, 14, 24],
  (.seq (jr [js 2 (.mov (.c (.bool false)))])
  (.seq (.seq (jr [jn (.mov (.v 0)), jn (.len false (.r 0)), jn (.mov (.v 1)), jn (.len false (.r 2)), js 4 (.bin false .neq (.r 1) (.r 3))])
  (.cond (.v 4) (.seq (jr [js 2 (.mov (.c (.bool false)))])
  .ret) .skip))
  (.seq (.seq (jr [jn (.mov (.v 0)), js 5 (.len false (.r 0)), js 6 (.mov (jc 0))])
  (.block 0 (.loop [true, true, false, false, false, true, true, false, false] (.seq (jr [js 7 (.bin false .lss (.v 6) (.v 5))])
  (.seq (.cond (.v 7) .skip (.exit 0))
  (.seq (.block 1 (.seq (jr [jn (.mov (.v 6)), js 3 (.mov (.r 0))])
  (.seq (.region true [] [jn (.mov (.v 0)), jn (.mov (.v 3)), jn (.iaddr 1 (.r 0) (.r 1)), jn (.load false 1 (.r 2)), jn (.mov (.v 1)), jn (.mov (.v 3)), jn (.iaddr 1 (.r 4) (.r 5)), jn (.load false 1 (.r 6)), js 8 (.bin false .neq (.r 3) (.r 7))])
  (.cond (.v 8) (.seq (jr [js 2 (.mov (.c (.bool false)))])
  .ret) .skip))))
  (jr [jn (.bin false .add (.v 6) (jc 1)), js 6 (.mov (.r 0))])))))))
  (.seq (jr [js 2 (.mov (.c (.bool true)))])
  .ret)))),
  [.v 2]⟩
def w61 : IFun := ⟨[0, 1, 4, 5, 10, 12, 13, 14, 25],
  (.seq (jr [js 2 (.mov (.c (.bool false)))])
  (.seq (.seq (jr [jn (.mov (.v 0)), jn (.len false (.r 0)), jn (.mov (.v 1)), jn (.len false (.r 2)), js 4 (.bin false .neq (.r 1) (.r 3))])
  (.cond (.v 4) (.seq (jr [js 2 (.mov (.c (.bool false)))])
  .ret) .skip))
  (.seq (.seq (jr [jn (.mov (.v 0)), js 5 (.len false (.r 0)), js 6 (.mov (jc 0))])
  (.block 0 (.loop [true, true, false, false, false, true, true, false, false] (.seq (jr [js 7 (.bin false .lss (.v 6) (.v 5))])
  (.seq (.cond (.v 7) .skip (.exit 0))
  (.seq (.block 1 (.seq (jr [jn (.mov (.v 6)), js 3 (.mov (.r 0))])
  (.seq (.region true [] [jn (.mov (.v 0)), jn (.mov (.v 3)), jn (.iaddr 1 (.r 0) (.r 1)), jn (.load false 1 (.r 2)), jn (.mov (.v 1)), jn (.mov (.v 3)), jn (.iaddr 1 (.r 4) (.r 5)), jn (.load false 1 (.r 6)), jn (.call false w3y [(.r 3), (.r 7)]), js 8 (.not (.r 8))])
  (.cond (.v 8) (.seq (jr [js 2 (.mov (.c (.bool false)))])
  .ret) .skip))))
  (jr [jn (.bin false .add (.v 6) (jc 1)), js 6 (.mov (.r 0))])))))))
  (.seq (jr [js 2 (.mov (.c (.bool true)))])
  .ret)))),
  [.v 2]⟩
def w5p : IFun := ⟨[0, 1, 2, 6, 7, 13],
  (.seq (jr [js 3 (.mov (.c (.bool false))), js 4 (.mov (.c (.bool false)))])
  (.seq (.seq (jr [jn (.mov (.v 0)), jn (.mov (.v 1)), jn (.mov (.v 2)), jn (.bslice false w8t false 1 [(.r 1), (.r 2)]), jn (.call false w3r [(.r 0), (.r 3)]), js 5 (.not (.r 4))])
  (.cond (.v 5) (.seq (jr [js 3 (.mov (.c (.bool false))), js 4 (.mov (.c (.bool false)))])
  .ret) .skip))
  (.seq (jr [jn (.mov (.v 1)), jn (.mov (.v 2)), jn (.call false w3t [(.r 0), (.r 1)]), js 3 (.mov (.r 2)), js 4 (.mov (.c (.bool true)))])
  .ret))),
  [.v 3, .v 4]⟩
def w5o : IFun := ⟨[0, 1, 2, 6, 7, 13],
  (.seq (jr [js 3 (.mov (jc 0)), js 4 (.mov (.c (.bool false)))])
  (.seq (.seq (jr [jn (.mov (.v 0)), jn (.mov (.v 1)), jn (.mov (.v 2)), jn (.bslice false w8t false 1 [(.r 1), (.r 2)]), jn (.call false w3r [(.r 0), (.r 3)]), js 5 (.not (.r 4))])
  (.cond (.v 5) (.seq (jr [js 3 (.mov (jc 0)), js 4 (.mov (.c (.bool false)))])
  .ret) .skip))
  (.seq (jr [jn (.mov (.v 1)), jn (.mov (.v 2)), jn (.call false w46 [(.r 0), (.r 1)]), js 3 (.mov (.r 2)), js 4 (.mov (.c (.bool true)))])
  .ret))),
  [.v 3, .v 4]⟩
def w74 : IFun := ⟨[0, 2],
  (.seq (jr [js 1 (.mov (jc 0))])
  (.seq (jr [jn (.mov (.v 0)), jn (.bslice false t_int true 1 [(jc 1), (jc 2), (jc 3), (jc 4), (jc 5), (jc 16), (jc 0), (jc 17)]), jn (.callm w4z [(.r 0), (.r 1)]), js 1 (.mov (.r 2))])
  .ret)),
  [.v 1]⟩
def w6r : IFun := ⟨[0, 2, 3, 4, 5, 6],
  (.seq (jr [js 1 (.mov (jc 0)), js 2 (.nilrow t_int true 1), js 3 (.nilrow t_int true 1)])
  (.seq (jr [jn (.mov (.v 0)), jn (.build [(.nil true 1), (.int .i64 0), (.int .u64 0)] [(0, 1, (.r 0))]), jn (.box w8v 3 (.r 1)), js 4 (.mov (.r 2))])
  (.seq (jr [jn (.mov (.v 4)), jn (.callm w54 [(.r 0)]), js 5 (.mov (.r 1))])
  (.seq (jr [jn (.mov (.v 5)), jn (.mov (.v 4)), jn (.mov (.v 5)), jn (.callm w50 [(.r 1), (.r 2)]), jn (.mov (.v 4)), jn (.mov (.v 5)), jn (.callm w50 [(.r 4), (.r 5)]), js 1 (.mov (.r 0)), js 2 (.mov (.r 3)), js 3 (.mov (.r 6))])
  .ret)))),
  [.v 1, .v 2, .v 3]⟩
def w6s : IFun := ⟨[0, 2, 3, 4],
  (.seq (jr [js 1 (.mov (jc 0)), js 2 (.nilrow t_int true 1), js 3 (.nilrow t_int true 1)])
  (.seq (jr [jn (.mov (.v 0)), jn (.call false w4r [(.r 0)]), jn (.extract (.r 1) 0), jn (.extract (.r 1) 1), jn (.extract (.r 1) 2), js 1 (.mov (.r 2)), js 2 (.mov (.r 3)), js 3 (.mov (.r 4))])
  .ret)),
  [.v 1, .v 2, .v 3]⟩
def w7b : IFun := ⟨[0, 1, 2, 6],
  (.seq (jr [js 3 (.mov (.c (.bool false)))])
  (.seq (jr [jn (.mov (.v 0)), jn (.mov (.v 1)), jn (.call false w4u [(.r 0), (.r 1)]), jn (.mov (.r 2)), jt 3 (.mov (.v 0)), jt 3 (.mov (.v 2)), jt 3 (.call false w4u [(.r 4), (.r 5)]), jn (.pick (.r 3) (.r 6) (.c (.bool false))), js 3 (.mov (.r 7))])
  .ret)),
  [.v 3]⟩
def w6q : IFun := ⟨[0, 1, 2, 6, 7, 12],
  (.seq (jr [js 3 (.mov (jc 0)), js 4 (.mov (.c (.bool false)))])
  (.seq (.seq (jr [jn (.mov (.v 0)), jn (.mov (.v 1)), jn (.mov (.v 2)), jn (.call false w5b [(.r 0), (.r 1), (.r 2)]), js 5 (.not (.r 3))])
  (.cond (.v 5) (.seq (jr [js 3 (.mov (jc 0)), js 4 (.mov (.c (.bool false)))])
  .ret) .skip))
  (.seq (jr [jn (.mov (.v 1)), jn (.mov (.v 2)), jn (.call false w4x [(.r 0), (.r 1)]), js 3 (.mov (.r 2)), js 4 (.mov (.c (.bool true)))])
  .ret))),
  [.v 3, .v 4]⟩
def w5y : IFun := ⟨[0, 1, 4, 5, 6, 7, 8, 9, 10, 12, 13, 15, 16, 17, 18, 19, 21, 22, 23, 24, 25, 26, 27, 28, 29, 30, 31, 32, 33, 34, 35, 36, 39, 65, 66, 67, 68, 69, 70, 73, 74, 75, 76, 87, 94, 96, 97, 98, 99, 105, 106, 107, 108, 151],
  (.seq (jr [js 2 (.mov (.c (.bool false)))])
  (.seq (.seq (jr [jn (.mov (.v 0)), jn (.mov (.v 1)), js 32 (.call false w3x [(.r 0), (.r 1)])])
  (.cond (.v 32) (.seq (jr [js 2 (.mov (.c (.bool true)))])
  .ret) .skip))
  (.seq (jr [jn (.mov (.v 0)), jn (.call false w4t [(.r 0)]), jn (.mov (.r 1)), jn (.extract (.r 2) 0), jn (.extract (.r 2) 1), js 3 (.mov (.r 3)), js 4 (.mov (.r 4))])
  (.seq (jr [jn (.mov (.v 3)), jn (.mov (.v 4)), jn (.call false w3p [(.r 0), (.r 1)]), jn (.mov (.r 2)), jn (.extract (.r 3) 0), jn (.extract (.r 3) 1), js 5 (.mov (.r 4)), js 6 (.mov (.r 5))])
  (.seq (jr [jn (.mov (.v 3)), jn (.mov (.v 4)), jn (.call false w4v [(.r 0), (.r 1)]), jn (.mov (.r 2)), jn (.extract (.r 3) 0), jn (.extract (.r 3) 1), js 7 (.mov (.r 4)), js 8 (.mov (.r 5))])
  (.seq (.seq (jr [jn (.mov (.v 6)), jn (.mov (.v 8)), jn (.bin true .neq (.r 0) (.r 1)), jn (.mov (.r 2)), jf 3 (.mov (.v 5)), jf 3 (.mov (.v 7)), jf 3 (.call false w3z [(.r 4), (.r 5)]), jf 3 (.not (.r 6)), js 33 (.pick (.r 3) (.c (.bool true)) (.r 7))])
  (.cond (.v 33) (.seq (jr [js 2 (.mov (.c (.bool false)))])
  .ret) .skip))
  (.seq (.seq (jr [js 34 (.mov (.v 6))])
  (.cond (.v 34) (.seq (.seq (jr [js 35 (.mov (.v 4)), js 36 (.len false (.v 35)), js 37 (.mov (jc 0))])
  (.block 0 (.loop [false, true, false, true, false, true, false, false, false, false, false, false, false, false, false, false, false, false, false, false, false, false, false, false, false, false, false, false, false, false, false, false, false, false, false, true, true, true, false, false, false, false, false, false, false, false, false, false, false, false, false, false, false, false] (.seq (jr [js 38 (.bin false .lss (.v 37) (.v 36))])
  (.seq (.cond (.v 38) .skip (.exit 0))
  (.seq (.block 1 (.seq (jr [jn (.iaddr 1 (.v 35) (.v 37)), jn (.load false 1 (.r 0)), js 9 (.mov (.r 1))])
  (.seq (jr [js 10 (.mov (.c (.bool false)))])
  (.seq (.seq (jr [js 39 (.mov (.v 5)), js 40 (.len false (.v 39)), js 41 (.mov (jc 0))])
  (.block 2 (.loop [false, true, false, true, false, true, false, false, false, true, true, false, false, false, false, false, false, false, false, false, false, false, false, false, false, false, false, false, false, false, false, false, false, false, false, true, true, true, false, true, true, true, false, false, false, false, false, false, false, false, false, false, false, false] (.seq (jr [js 42 (.bin false .lss (.v 41) (.v 40))])
  (.seq (.cond (.v 42) .skip (.exit 2))
  (.seq (.block 3 (.seq (jr [jn (.iaddr 1 (.v 39) (.v 41)), jn (.load false 1 (.r 0)), js 11 (.mov (.r 1))])
  (.seq (jr [jn (.mov (.v 3)), jn (.mov (.v 9)), jn (.mov (.v 11)), jn (.call false w3n [(.r 0), (.r 1), (.r 2)]), jn (.mov (.r 3)), jn (.extract (.r 4) 0), jn (.extract (.r 4) 1), js 12 (.mov (.r 5)), js 13 (.mov (.r 6))])
  (.seq (.seq (jr [jn (.mov (.v 13)), js 43 (.not (.r 0))])
  (.cond (.v 43) (.seq (jr [js 2 (.mov (.c (.bool false)))])
  .ret) .skip))
  (jr [jn (.mov (.v 10)), jn (.mov (.r 0)), jf 1 (.mov (.v 12)), jn (.pick (.r 1) (.c (.bool true)) (.r 2)), js 10 (.mov (.r 3))])))))
  (jr [jn (.bin false .add (.v 41) (jc 1)), js 41 (.mov (.r 0))])))))))
  (.seq (jr [jn (.mov (.v 10)), js 44 (.not (.r 0))])
  (.cond (.v 44) (.seq (jr [js 2 (.mov (.c (.bool false)))])
  .ret) .skip))))))
  (jr [jn (.bin false .add (.v 37) (jc 1)), js 37 (.mov (.r 0))])))))))
  (.seq (jr [js 45 (.mov (.v 5)), js 46 (.len false (.v 45)), js 47 (.mov (jc 0))])
  (.block 4 (.loop [false, true, false, true, false, true, false, false, false, false, false, false, false, false, false, false, false, false, false, false, false, false, false, false, false, false, false, false, false, false, false, false, false, false, false, false, false, false, false, false, false, false, false, false, false, true, true, true, false, false, false, false, false, false] (.seq (jr [js 48 (.bin false .lss (.v 47) (.v 46))])
  (.seq (.cond (.v 48) .skip (.exit 4))
  (.seq (.block 5 (.seq (jr [jn (.mov (.v 47)), jn (.iaddr 1 (.v 45) (.v 47)), jn (.load false 1 (.r 1)), js 14 (.mov (.r 0)), js 15 (.mov (.r 2))])
  (.seq (jr [jn (.mov (.v 5)), jn (.mov (.v 14)), js 49 (.slice 1 (.r 0) none (some (.r 1))), js 50 (.len false (.v 49)), js 51 (.mov (jc 0))])
  (.block 6 (.loop [false, true, false, true, false, true, false, false, false, false, false, false, false, false, false, true, false, false, false, false, false, false, false, false, false, false, false, false, false, false, false, false, false, false, false, false, false, false, false, false, false, false, false, false, false, true, true, true, false, true, true, true, false, false] (.seq (jr [js 52 (.bin false .lss (.v 51) (.v 50))])
  (.seq (.cond (.v 52) .skip (.exit 6))
  (.seq (.block 7 (.seq (jr [jn (.iaddr 1 (.v 49) (.v 51)), jn (.load false 1 (.r 0)), js 16 (.mov (.r 1))])
  (.seq (jr [jn (.mov (.v 3)), jn (.mov (.v 15)), jn (.mov (.v 16)), jn (.call false w3n [(.r 0), (.r 1), (.r 2)]), jn (.mov (.r 3)), jn (.extract (.r 4) 0), jn (.extract (.r 4) 1), js 17 (.mov (.r 5)), js 18 (.mov (.r 6))])
  (.seq (jr [jn (.mov (.v 3)), jn (.mov (.v 16)), jn (.mov (.v 15)), jn (.call false w3n [(.r 0), (.r 1), (.r 2)]), jn (.mov (.r 3)), jn (.extract (.r 4) 0), jn (.extract (.r 4) 1), js 19 (.mov (.r 5)), js 20 (.mov (.r 6))])
  (.seq (jr [jn (.mov (.v 3)), jn (.mov (.v 16)), jn (.mov (.v 15)), jn (.call false w3m [(.r 0), (.r 1), (.r 2)]), jn (.mov (.r 3)), jn (.extract (.r 4) 0), jn (.extract (.r 4) 1), js 21 (.mov (.r 5)), js 22 (.mov (.r 6))])
  (.seq (jr [jn (.mov (.v 18)), jn (.not (.r 0)), jn (.mov (.r 1)), jf 2 (.mov (.v 20)), jf 2 (.not (.r 3)), jn (.pick (.r 2) (.c (.bool true)) (.r 4)), jn (.mov (.r 5)), jf 6 (.mov (.v 22)), jf 6 (.not (.r 7)), jn (.pick (.r 6) (.c (.bool true)) (.r 8)), jn (.mov (.r 9)), jf 10 (.mov (.v 17)), jn (.pick (.r 10) (.c (.bool true)) (.r 11)), jn (.mov (.r 12)), jf 13 (.mov (.v 19)), jn (.pick (.r 13) (.c (.bool true)) (.r 14)), jn (.mov (.r 15)), jf 16 (.mov (.v 21)), jf 16 (.bin false .neq (.r 17) (jc (-1))), js 53 (.pick (.r 16) (.c (.bool true)) (.r 18))])
  (.cond (.v 53) (.seq (jr [js 2 (.mov (.c (.bool false)))])
  .ret) .skip)))))))
  (jr [jn (.bin false .add (.v 51) (jc 1)), js 51 (.mov (.r 0))])))))))))
  (jr [jn (.bin false .add (.v 47) (jc 1)), js 47 (.mov (.r 0))])))))))) .skip))
  (.seq (jr [jn (.mov (.v 1)), jn (.call false w4s [(.r 0)]), jn (.mov (.r 1)), jn (.extract (.r 2) 0), jn (.extract (.r 2) 1), jn (.extract (.r 2) 2), js 23 (.mov (.r 3)), js 24 (.mov (.r 4)), js 25 (.mov (.r 5))])
  (.seq (jr [jn (.mov (.v 23)), jn (.mov (.v 24)), jn (.mov (.v 25)), jn (.call false w3m [(.r 0), (.r 1), (.r 2)]), jn (.mov (.r 3)), jn (.extract (.r 4) 0), jn (.extract (.r 4) 1), js 26 (.mov (.r 5)), js 27 (.mov (.r 6))])
  (.seq (jr [jn (.mov (.v 23)), jn (.mov (.v 24)), jn (.mov (.v 25)), jn (.call false w4q [(.r 0), (.r 1), (.r 2)]), jn (.mov (.r 3)), jn (.extract (.r 4) 0), jn (.extract (.r 4) 1), js 28 (.mov (.r 5)), js 29 (.mov (.r 6))])
  (.seq (jr [jn (.mov (.v 23)), jn (.mov (.v 25)), jn (.mov (.v 24)), jn (.call false w3m [(.r 0), (.r 1), (.r 2)]), jn (.mov (.r 3)), jn (.extract (.r 4) 0), jn (.extract (.r 4) 1), js 30 (.mov (.r 5)), js 31 (.mov (.r 6))])
  (.seq (jr [jn (.mov (.v 27)), jn (.mov (.v 29)), jn (.bin true .eql (.r 0) (.r 1)), jn (.mov (.r 2)), jt 3 (.mov (.v 26)), jt 3 (.mov (.v 28)), jt 3 (.bin false .eql (.r 4) (.r 5)), jn (.pick (.r 3) (.r 6) (.c (.bool false))), jn (.mov (.r 7)), jt 8 (.mov (.v 31)), jt 8 (.mov (.v 27)), jt 8 (.bin true .eql (.r 9) (.r 10)), jn (.pick (.r 8) (.r 11) (.c (.bool false))), jn (.mov (.r 12)), jt 13 (.mov (.v 30)), jt 13 (.mov (.v 26)), jt 13 (.neg (.r 15)), jt 13 (.bin false .eql (.r 14) (.r 16)), jn (.pick (.r 13) (.r 17) (.c (.bool false))), js 2 (.mov (.r 18))])
  .ret)))))))))))),
  [.v 2]⟩
def tbl : List (FuncId × IFun) := [(w3x, w5z), (w51, w71), (w53, w73), (w4z, w6z), (w52, w72), (w50, w70), (w4t, w6t), (w3v, w5x), (w3q, w5s), (w3o, w5q), (w3s, w5u), (w49, w69), (w47, w67), (w3r, w5t), (w41, w63), (w42, w64), (w40, w62), (w4e, w6e), (w4o, w6o), (w4d, w6d), (w4h, w6h), (w4p, w6p), (w4b, w6b), (w4i, w6i), (w4g, w6g), (w4f, w6f), (w4c, w6c), (w4n, w6n), (w4j, w6j), (w4l, w6l), (w4k, w6k), (w4m, w6m), (w4a, w6a), (w3l, w5n), (w3k, w5m), (w46, w66), (w45, w65), (w48, w68), (w3t, w5v), (w3u, w5w), (w3p, w5r), (w55, w75), (w59, w79), (w4w, w6w), (w4u, w6u), (w4y, w6y), (w5a, w7a), (w58, w78), (w4x, w6x), (w56, w76), (w57, w77), (w4v, w6v), (w3y, w60), (w3z, w61), (w3n, w5p), (w3m, w5o), (w54, w74), (w4r, w6r), (w4s, w6s), (w5b, w7b), (w4q, w6q), (w3w, w5y)]
def F (f : FuncId) : Option IFun := (tbl.find? fun p => p.1 == f).map (·.2)
def exts : List (FuncId × (List PV → Option PV)) := [(w44, w3i), (w43, w3h)]
def ext (f : FuncId) : Option (List PV → Option PV) := (exts.find? fun p => p.1 == f).map (·.2)
noncomputable def C : Orc := lim F ext
@[go_sem] abbrev Wr (i : IFun) (a : List PV) (M : List Blk) (r : PV × List Blk) : Prop := W C M.length i.body ⟨start i a, M⟩ (Lv M.length i.results r)
@[go_sem] abbrev We (i : IFun) (a : List PV) (M : List Blk) (P : PV × List Blk → Prop) : Prop := W C M.length i.body ⟨start i a, M⟩ (Le' M.length i.results P)
variable {a : List PV} {M : List Blk} {r : PV × List Blk} {P : PV × List Blk → Prop}
theorem w0d (h : Wr w5z a M r) : C w3x a M = some r := z7u rfl rfl h
theorem w1j (h : We w71 a M P) : Lw (C w51 a M) P := z7r rfl rfl h
theorem w1l (h : We w73 a M P) : Lw (C w53 a M) P := z7r rfl rfl h
theorem w1h (h : We w6z a M P) : Lw (C w4z a M) P := z7r rfl rfl h
theorem w1k (h : We w72 a M P) : Lw (C w52 a M) P := z7r rfl rfl h
theorem w1i (h : We w70 a M P) : Lw (C w50 a M) P := z7r rfl rfl h
theorem w1f (h : We w6t a M P) : Lw (C w4t a M) P := z7r rfl rfl h
theorem w0b (h : Wr w5x a M r) : C w3v a M = some r := z7u rfl rfl h
theorem w06 (h : Wr w5s a M r) : C w3q a M = some r := z7u rfl rfl h
theorem w04 (h : Wr w5q a M r) : C w3o a M = some r := z7u rfl rfl h
theorem w08 (h : Wr w5u a M r) : C w3s a M = some r := z7u rfl rfl h
theorem w0l (h : Wr w69 a M r) : C w49 a M = some r := z7u rfl rfl h
theorem w0j (h : Wr w67 a M r) : C w47 a M = some r := z7u rfl rfl h
theorem w07 (h : Wr w5t a M r) : C w3r a M = some r := z7u rfl rfl h
theorem w0h (h : Wr w64 a M r) : C w42 a M = some r := z7u rfl rfl h
theorem w0g (h : Wr w62 a M r) : C w40 a M = some r := z7u rfl rfl h
theorem w0n (h : Wr w6e a M r) : C w4e a M = some r := z7u rfl rfl h
theorem w0s (h : Wr w6o a M r) : C w4o a M = some r := z7u rfl rfl h
theorem w0m (h : Wr w6d a M r) : C w4d a M = some r := z7u rfl rfl h
theorem w0o (h : Wr w6h a M r) : C w4h a M = some r := z7u rfl rfl h
theorem w1c (h : We w6p a M P) : Lw (C w4p a M) P := z7r rfl rfl h
theorem w15 (h : We w6b a M P) : Lw (C w4b a M) P := z7r rfl rfl h
theorem w19 (h : We w6i a M P) : Lw (C w4i a M) P := z7r rfl rfl h
theorem w18 (h : We w6g a M P) : Lw (C w4g a M) P := z7r rfl rfl h
theorem w17 (h : We w6f a M P) : Lw (C w4f a M) P := z7r rfl rfl h
theorem w16 (h : We w6c a M P) : Lw (C w4c a M) P := z7r rfl rfl h
theorem w1b (h : We w6n a M P) : Lw (C w4n a M) P := z7r rfl rfl h
theorem w0p (h : Wr w6j a M r) : C w4j a M = some r := z7u rfl rfl h
theorem w0r (h : Wr w6l a M r) : C w4l a M = some r := z7u rfl rfl h
theorem w0q (h : Wr w6k a M r) : C w4k a M = some r := z7u rfl rfl h
theorem w1a (h : We w6m a M P) : Lw (C w4m a M) P := z7r rfl rfl h
theorem w14 (h : We w6a a M P) : Lw (C w4a a M) P := z7r rfl rfl h
theorem w01 (h : Wr w5n a M r) : C w3l a M = some r := z7u rfl rfl h
theorem w00 (h : Wr w5m a M r) : C w3k a M = some r := z7u rfl rfl h
theorem w0i (h : Wr w66 a M r) : C w46 a M = some r := z7u rfl rfl h
theorem w13 (h : We w65 a M P) : Lw (C w45 a M) P := z7r rfl rfl h
theorem w0k (h : Wr w68 a M r) : C w48 a M = some r := z7u rfl rfl h
theorem w09 (h : Wr w5v a M r) : C w3t a M = some r := z7u rfl rfl h
theorem w0a (h : Wr w5w a M r) : C w3u a M = some r := z7u rfl rfl h
theorem w05 (h : Wr w5r a M r) : C w3p a M = some r := z7u rfl rfl h
theorem w0y (h : Wr w75 a M r) : C w55 a M = some r := z7u rfl rfl h
theorem w10 (h : Wr w79 a M r) : C w59 a M = some r := z7u rfl rfl h
theorem w0v (h : Wr w6w a M r) : C w4w a M = some r := z7u rfl rfl h
theorem w0u (h : Wr w6u a M r) : C w4u a M = some r := z7u rfl rfl h
theorem w0x (h : Wr w6y a M r) : C w4y a M = some r := z7u rfl rfl h
theorem w11 (h : Wr w7a a M r) : C w5a a M = some r := z7u rfl rfl h
theorem w0z (h : Wr w78 a M r) : C w58 a M = some r := z7u rfl rfl h
theorem w0w (h : Wr w6x a M r) : C w4x a M = some r := z7u rfl rfl h
theorem w1n (h : We w76 a M P) : Lw (C w56 a M) P := z7r rfl rfl h
theorem w1o (h : We w77 a M P) : Lw (C w57 a M) P := z7r rfl rfl h
theorem w1g (h : We w6v a M P) : Lw (C w4v a M) P := z7r rfl rfl h
theorem w0e (h : Wr w60 a M r) : C w3y a M = some r := z7u rfl rfl h
theorem w0f (h : Wr w61 a M r) : C w3z a M = some r := z7u rfl rfl h
theorem w03 (h : Wr w5p a M r) : C w3n a M = some r := z7u rfl rfl h
theorem w02 (h : Wr w5o a M r) : C w3m a M = some r := z7u rfl rfl h
theorem w1m (h : We w74 a M P) : Lw (C w54 a M) P := z7r rfl rfl h
theorem w1d (h : We w6r a M P) : Lw (C w4r a M) P := z7r rfl rfl h
theorem w1e (h : We w6s a M P) : Lw (C w4s a M) P := z7r rfl rfl h
theorem w12 (h : Wr w7b a M r) : C w5b a M = some r := z7u rfl rfl h
theorem w0t (h : Wr w6q a M r) : C w4q a M = some r := z7u rfl rfl h
theorem w0c (h : Wr w5y a M r) : C w3w a M = some r := z7u rfl rfl h
theorem w7l {es : List PV} (h : es.length ≤ 68719476736) : C w44 [.sl false 1 es] [] = some (.un w8t false 1 es, []) := zno (e := w3i) rfl (by simp [w3i, zdt, h])
theorem w7k {es : List PV} (h : es.length ≤ 68719476736) : C w43 [.sl true 1 es] [] = some (.un t_int true 1 es, []) := zno (e := w3h) rfl (by simp [w3h, zdt, h])
end Go.Proofs.Ytkkifebmicbbaaa.Pi
