/- The forms of the functions that the law reaches, and their oracle. Definitions alone; no condition. -/
import Derived.Test.YtkkifebmicbbaaaGreatPiExt
namespace Go.Proofs.YtkkifebmicbbaaaGreat.Pi
open Go
set_option linter.all false
abbrev t_int : TypeId := 3
abbrev whf : TypeId := 4
abbrev whs : TypeId := 26
abbrev whq : TypeId := 28
abbrev whm : TypeId := 33
abbrev whk : TypeId := 46
abbrev whi : TypeId := 48
abbrev whh : TypeId := 59
abbrev whr : TypeId := 60
abbrev wht : TypeId := 98
abbrev whl : TypeId := 105
abbrev whj : TypeId := 117
abbrev whn : TypeId := 144
abbrev whp : TypeId := 152
abbrev whg : TypeId := 163
abbrev w8k : FuncId := 16
abbrev w9s : FuncId := 167
abbrev w9u : FuncId := 103
abbrev w9y : FuncId := 166
abbrev w9w : FuncId := 102
abbrev wa3 : FuncId := 104
abbrev w9v : FuncId := 105
abbrev w9t : FuncId := 106
abbrev w9q : FuncId := 107
abbrev w9x : FuncId := 55
abbrev wa0 : FuncId := 44
abbrev w9z : FuncId := 157
abbrev wa4 : FuncId := 158
abbrev w9l : FuncId := 94
abbrev wa1 : FuncId := 86
abbrev wa5 : FuncId := 201
abbrev w9k : FuncId := 159
abbrev w9j : FuncId := 160
abbrev w9h : FuncId := 95
abbrev wa2 : FuncId := 184
abbrev w9c : FuncId := 202
abbrev wac : FuncId := 203
abbrev waa : FuncId := 204
abbrev wab : FuncId := 205
abbrev w9f : FuncId := 161
abbrev w9a : FuncId := 96
abbrev w9d : FuncId := 43
abbrev wad : FuncId := 76
abbrev w9e : FuncId := 32
abbrev wa6 : FuncId := 180
abbrev wa7 : FuncId := 133
abbrev w9m : FuncId := 122
abbrev w9i : FuncId := 125
abbrev w9p : FuncId := 162
abbrev w9b : FuncId := 135
abbrev wa9 : FuncId := 179
abbrev wa8 : FuncId := 134
abbrev w99 : FuncId := 126
abbrev w9o : FuncId := 69
abbrev w9r : FuncId := 66
abbrev w98 : FuncId := 22
abbrev w8i : FuncId := 48
abbrev w7w : FuncId := 165
abbrev w7i : FuncId := 65
abbrev w7j : FuncId := 164
abbrev w94 : FuncId := 192
abbrev w8u : FuncId := 147
abbrev w82 : FuncId := 99
abbrev w85 : FuncId := 108
abbrev w8o : FuncId := 91
abbrev w8b : FuncId := 168
abbrev w8a : FuncId := 169
abbrev w8h : FuncId := 109
abbrev w8d : FuncId := 58
abbrev w7m : FuncId := 191
abbrev w74 : FuncId := 190
abbrev w8z : FuncId := 219
abbrev w8q : FuncId := 189
abbrev w73 : FuncId := 146
abbrev w89 : FuncId := 220
abbrev w90 : FuncId := 206
abbrev w8r : FuncId := 182
abbrev w88 : FuncId := 193
abbrev w7n : FuncId := 194
abbrev w87 : FuncId := 148
abbrev w71 : FuncId := 88
abbrev w81 : FuncId := 47
abbrev w8c : FuncId := 121
abbrev w86 : FuncId := 67
abbrev w7z : FuncId := 183
abbrev w7y : FuncId := 130
abbrev w84 : FuncId := 129
abbrev w8y : FuncId := 181
abbrev w8v : FuncId := 128
abbrev w83 : FuncId := 72
abbrev w93 : FuncId := 178
abbrev w8t : FuncId := 123
abbrev w7v : FuncId := 120
abbrev w7q : FuncId := 124
abbrev w8f : FuncId := 68
abbrev w77 : FuncId := 23
abbrev w9n : FuncId := 70
abbrev w9g : FuncId := 24
abbrev w8l : FuncId := 25
abbrev w8n : FuncId := 57
abbrev w8m : FuncId := 26
abbrev w8e : FuncId := 62
abbrev w7s : FuncId := 119
abbrev w8w : FuncId := 171
abbrev w7b : FuncId := 170
abbrev w91 : FuncId := 114
abbrev w7a : FuncId := 111
abbrev w7u : FuncId := 61
abbrev w7t : FuncId := 110
abbrev w7c : FuncId := 112
abbrev w92 : FuncId := 113
abbrev w7r : FuncId := 172
abbrev w80 : FuncId := 116
abbrev w7p : FuncId := 115
abbrev w7e : FuncId := 174
abbrev w8x : FuncId := 173
abbrev w95 : FuncId := 175
abbrev w7d : FuncId := 117
abbrev w79 : FuncId := 177
abbrev w8p : FuncId := 176
abbrev w78 : FuncId := 118
abbrev w7o : FuncId := 60
abbrev w8s : FuncId := 63
abbrev w7h : FuncId := 100
abbrev w7g : FuncId := 49
abbrev w6z : FuncId := 10
abbrev w72 : FuncId := 127
abbrev w7x : FuncId := 71
abbrev w75 : FuncId := 27
abbrev w7l : FuncId := 131
abbrev w7k : FuncId := 73
abbrev w8g : FuncId := 74
abbrev w7f : FuncId := 28
abbrev w70 : FuncId := 29
abbrev w96 : FuncId := 75
abbrev w97 : FuncId := 30
abbrev w76 : FuncId := 31
abbrev w8j : FuncId := 5
def w6x : List PV → Option PV := zdt t_int true 1
@[go_sem] abbrev jn (o : IOp) : IOper := ⟨none, o, none⟩
@[go_sem] abbrev js (k : Nat) (o : IOp) : IOper := ⟨some k, o, none⟩
@[go_sem] abbrev jt (j : Nat) (o : IOp) : IOper := ⟨none, o, some (j, true)⟩
@[go_sem] abbrev jf (j : Nat) (o : IOp) : IOper := ⟨none, o, some (j, false)⟩
@[go_sem] abbrev jr (l : List IOper) : ICode := .region false [] l
@[go_sem] abbrev jc (n : Int) : Opd := .c (.int .i64 n)
def wdn : IFun := ⟨[0, 1, 4],
  (.seq (jr [js 2 (.mov (.c (.bool false)))])
  (.seq (jr [jn (.mov (.v 0)), jn (.len false (.r 0)), jn (.bin false .gtr (.r 1) (jc 1048576)), jn (.mov (.r 2)), jf 3 (.mov (.v 1)), jf 3 (.len false (.r 4)), jf 3 (.mov (.v 0)), jf 3 (.len false (.r 6)), jf 3 (.bin false .sub (jc 1048576) (.r 7)), jf 3 (.bin false .gtr (.r 5) (.r 8)), jn (.pick (.r 3) (.c (.bool true)) (.r 9)), js 2 (.mov (.r 10))])
  .ret)),
  [.v 2]⟩
def weu : IFun := ⟨[0, 2, 3, 13, 53],
  (.seq (jr [js 1 (.mov (jc 0))])
  (.seq (jr [js 2 (.mov (jc 0))])
  (.seq (.seq (.region true [] [jn (.mov (.v 0)), jn (.ncheck (.r 0)), jn (.faddr 1 (.r 1)), jn (.load false 1 (.r 2)), jn (.mov (.v 0)), jn (.ncheck (.r 4)), jn (.faddr 0 (.r 5)), jn (.load false 1 (.r 6)), jn (.len false (.r 7)), js 3 (.bin false .lss (.r 3) (.r 8))])
  (.cond (.v 3) (.region true [] [jn (.mov (.v 0)), jn (.ncheck (.r 0)), jn (.faddr 0 (.r 1)), jn (.load false 1 (.r 2)), jn (.mov (.v 0)), jn (.ncheck (.r 4)), jn (.faddr 1 (.r 5)), jn (.load false 1 (.r 6)), jn (.iaddr 1 (.r 3) (.r 7)), jn (.load false 1 (.r 8)), jn (.conv .i64 (.r 9)), js 2 (.mov (.r 10))]) .skip))
  (.seq (jr [jn (.mov (.v 0)), jn (.ncheck (.r 0)), jn (.faddr 1 (.r 1)), jn (.load false 1 (.r 2)), jn (.bin false .add (.r 3) (jc 1)), jn (.ncheck (.r 0)), jn (.faddr 1 (.r 5)), jn (.store 1 (.r 6) (.r 4))])
  (.seq (jr [jn (.mov (.v 0)), jn (.mov (.v 0)), jn (.ncheck (.r 1)), jn (.faddr 2 (.r 2)), jn (.load false 1 (.r 3)), jn (.bin false .mul (.r 4) (.c (.int .u64 6364136223846793005))), jn (.mov (.v 2)), jn (.conv .u64 (.r 6)), jn (.bin false .add (.r 5) (.r 7)), jn (.bin false .add (.r 8) (.c (.int .u64 1442695040888963407))), jn (.ncheck (.r 0)), jn (.faddr 2 (.r 10)), jn (.store 1 (.r 11) (.r 9))])
  (.seq (.seq (.region true [] [jn (.mov (.v 0)), jn (.ncheck (.r 0)), jn (.faddr 1 (.r 1)), jn (.load false 1 (.r 2)), jn (.mov (.v 0)), jn (.ncheck (.r 4)), jn (.faddr 0 (.r 5)), jn (.load false 1 (.r 6)), jn (.len false (.r 7)), js 4 (.bin false .leq (.r 3) (.r 8))])
  (.cond (.v 4) (.seq (jr [jn (.mov (.v 2)), js 1 (.mov (.r 0))])
  .ret) .skip))
  (.seq (jr [jn (.mov (.v 0)), jn (.ncheck (.r 0)), jn (.faddr 2 (.r 1)), jn (.load false 1 (.r 2)), jn (.bin false .shr (.r 3) (.c (.int .u64 40))), jn (.bin false .and (.r 4) (.c (.int .u64 255))), jn (.conv .i64 (.r 5)), js 1 (.mov (.r 6))])
  .ret))))))),
  [.v 1]⟩
def wew : IFun := ⟨[0, 1, 4, 5, 7, 11],
  (.seq (jr [js 2 (.mov (jc 0))])
  (.seq (.seq (jr [jn (.mov (.v 1)), js 4 (.bin false .leq (.r 0) (jc 1))])
  (.cond (.v 4) (.seq (jr [js 2 (.mov (jc 0))])
  .ret) .skip))
  (.seq (jr [jn (.mov (.v 0)), jn (.callm w9s [(.r 0)]), js 3 (.mov (.r 1))])
  (.seq (.seq (jr [jn (.mov (.v 1)), js 5 (.bin false .gtr (.r 0) (jc 200))])
  (.cond (.v 5) (jr [jn (.mov (.v 3)), jn (.bin false .mul (.r 0) (jc 256)), jn (.mov (.v 0)), jn (.callm w9s [(.r 2)]), jn (.bin false .add (.r 1) (.r 3)), js 3 (.mov (.r 4))]) .skip))
  (.seq (jr [jn (.mov (.v 3)), jn (.mov (.v 1)), jn (.bin false .rem (.r 0) (.r 1)), js 2 (.mov (.r 2))])
  .ret))))),
  [.v 2]⟩
def wf2 : IFun := ⟨[0, 1, 2, 3, 4, 10],
  (.seq (jr [js 5 (.alloc whn [(.int .i64 0), (.int .i64 0), (.nil true 1), (.nil true 1), (.nil true 1), (.nil true 1), (.int .i64 0)])])
  (.seq (jr [jn (.mov (.v 3)), jn (.mov (.v 4)), jn (.mov (.v 1)), jn (.mov (.v 2)), jn (.mov (.v 0)), jn (.callm w9u [(.r 4), (jc 3)]), jn (.build [(.int .i64 0), (.int .i64 0), (.nil true 1), (.nil true 1), (.nil true 1), (.nil true 1), (.int .i64 0)] [(0, 1, (.r 0)), (1, 1, (.r 1)), (2, 1, (.r 2)), (3, 1, (.r 3)), (6, 1, (.r 5))]), jn (.store 7 (.v 5) (.r 6))])
  .ret)),
  [.cell true 7 5]⟩
def wey : IFun := ⟨[0, 2, 3, 4, 5, 7, 49, 67, 100, 118],
  (.seq (jr [js 1 (.alloc whm [(.int .i64 0), (.nil false 7)])])
  (.seq (jr [js 2 (.mov (jc 1))])
  (.seq (jr [js 3 (.mov (jc 2))])
  (.seq (jr [js 4 (.alloc whm [(.int .i64 0), (.nil false 7)])])
  (.seq (.seq (jr [jn (.mov (.v 0)), js 5 (.callm w9u [(.r 0), (jc 5)])])
  (.block 0 (.seq (jr [jn (.bin false .eql (.v 5) (jc 0)), js 6 (.mov (.r 0))])
  (.cond (.v 6) (.seq (jr [jn (.faddr 0 (.v 4)), jn (.store 1 (.r 0) (jc 3))])
  (.region true [(10, 1), (11, 1), (12, 1)] [jn (.faddr 1 (.v 4)), jn (.load false 1 (.r 0)), jn (.mov (.v 0)), jn (.bslice true t_int true 1 [(jc 0)]), jn (.bslice true t_int true 1 [(jc 2)]), jn (.mov (.v 2)), jn (.mov (.v 0)), jn (.bslice true t_int true 1 [(jc 2)]), jn (.bslice true t_int true 1 [(jc 1)]), jn (.mov (.v 2)), jn (.callm w9y [(.r 2), (.r 3), (.r 4), (.r 5), (jc 1)]), jn (.callm w9y [(.r 6), (.r 7), (.r 8), (.r 9), (jc 1)]), jn (.bslice false whn false 7 [(.r 10), (.r 11)]), jn (.append whn false 7 (.r 1) (.r 12)), jn (.faddr 1 (.v 4)), jn (.store 1 (.r 14) (.r 13))])) (.seq (jr [jn (.bin false .eql (.v 5) (jc 1)), js 7 (.mov (.r 0))])
  (.cond (.v 7) (.seq (jr [jn (.faddr 0 (.v 4)), jn (.store 1 (.r 0) (jc 6))])
  (.seq (.region true [(10, 1), (11, 1), (12, 1)] [jn (.faddr 1 (.v 4)), jn (.load false 1 (.r 0)), jn (.mov (.v 0)), jn (.bslice true t_int true 1 [(jc 0)]), jn (.bslice true t_int true 1 [(jc 2), (jc 3)]), jn (.mov (.v 2)), jn (.mov (.v 0)), jn (.bslice true t_int true 1 [(jc 2)]), jn (.bslice true t_int true 1 [(jc 4)]), jn (.mov (.v 2)), jn (.callm w9y [(.r 2), (.r 3), (.r 4), (.r 5), (jc 1)]), jn (.callm w9y [(.r 6), (.r 7), (.r 8), (.r 9), (jc 1)]), jn (.bslice false whn false 7 [(.r 10), (.r 11)]), jn (.append whn false 7 (.r 1) (.r 12)), jn (.faddr 1 (.v 4)), jn (.store 1 (.r 14) (.r 13))])
  (.region true [(10, 1), (11, 1), (12, 1)] [jn (.faddr 1 (.v 4)), jn (.load false 1 (.r 0)), jn (.mov (.v 0)), jn (.bslice true t_int true 1 [(jc 3)]), jn (.bslice true t_int true 1 [(jc 5)]), jn (.mov (.v 3)), jn (.mov (.v 0)), jn (.bslice true t_int true 1 [(jc 4), (jc 5)]), jn (.bslice true t_int true 1 [(jc 1)]), jn (.mov (.v 2)), jn (.callm w9y [(.r 2), (.r 3), (.r 4), (.r 5), (jc 2)]), jn (.callm w9y [(.r 6), (.r 7), (.r 8), (.r 9), (jc 1)]), jn (.bslice false whn false 7 [(.r 10), (.r 11)]), jn (.append whn false 7 (.r 1) (.r 12)), jn (.faddr 1 (.v 4)), jn (.store 1 (.r 14) (.r 13))]))) (.seq (jr [jn (.bin false .eql (.v 5) (jc 2)), js 8 (.mov (.r 0))])
  (.cond (.v 8) (.seq (jr [jn (.faddr 0 (.v 4)), jn (.store 1 (.r 0) (jc 4))])
  (.region true [(10, 1), (11, 1), (12, 1)] [jn (.faddr 1 (.v 4)), jn (.load false 1 (.r 0)), jn (.mov (.v 0)), jn (.bslice true t_int true 1 [(jc 0)]), jn (.bslice true t_int true 1 [(jc 2), (jc 3)]), jn (.mov (.v 3)), jn (.mov (.v 0)), jn (.bslice true t_int true 1 [(jc 2), (jc 3)]), jn (.bslice true t_int true 1 [(jc 1)]), jn (.mov (.v 3)), jn (.callm w9y [(.r 2), (.r 3), (.r 4), (.r 5), (jc 2)]), jn (.callm w9y [(.r 6), (.r 7), (.r 8), (.r 9), (jc 1)]), jn (.bslice false whn false 7 [(.r 10), (.r 11)]), jn (.append whn false 7 (.r 1) (.r 12)), jn (.faddr 1 (.v 4)), jn (.store 1 (.r 14) (.r 13))])) (.seq (jr [jn (.bin false .eql (.v 5) (jc 3)), js 9 (.mov (.r 0))])
  (.cond (.v 9) (.seq (jr [jn (.faddr 0 (.v 4)), jn (.store 1 (.r 0) (jc 4))])
  (.region true [(10, 1), (11, 1), (12, 1)] [jn (.faddr 1 (.v 4)), jn (.load false 1 (.r 0)), jn (.mov (.v 0)), jn (.bslice true t_int true 1 [(jc 0)]), jn (.bslice true t_int true 1 [(jc 2)]), jn (.mov (.v 2)), jn (.mov (.v 0)), jn (.bslice true t_int true 1 [(jc 2), (jc 3)]), jn (.bslice true t_int true 1 [(jc 1), (jc 3)]), jn (.mov (.v 3)), jn (.callm w9y [(.r 2), (.r 3), (.r 4), (.r 5), (jc 1)]), jn (.callm w9y [(.r 6), (.r 7), (.r 8), (.r 9), (jc 2)]), jn (.bslice false whn false 7 [(.r 10), (.r 11)]), jn (.append whn false 7 (.r 1) (.r 12)), jn (.faddr 1 (.v 4)), jn (.store 1 (.r 14) (.r 13))])) (.seq (jr [jn (.faddr 0 (.v 4)), jn (.store 1 (.r 0) (jc 4))])
  (.seq (.region true [(14, 1), (15, 1), (16, 1), (17, 1)] [jn (.faddr 1 (.v 4)), jn (.load false 1 (.r 0)), jn (.mov (.v 0)), jn (.bslice true t_int true 1 [(jc 0)]), jn (.bslice true t_int true 1 [(jc 2), (jc 3)]), jn (.mov (.v 2)), jn (.mov (.v 0)), jn (.bslice true t_int true 1 [(jc 2)]), jn (.bslice true t_int true 1 [(jc 1)]), jn (.mov (.v 2)), jn (.mov (.v 0)), jn (.bslice true t_int true 1 [(jc 3)]), jn (.bslice true t_int true 1 [(jc 1), (jc 3)]), jn (.mov (.v 2)), jn (.callm w9y [(.r 2), (.r 3), (.r 4), (.r 5), (jc 1)]), jn (.callm w9y [(.r 6), (.r 7), (.r 8), (.r 9), (jc 1)]), jn (.callm w9y [(.r 10), (.r 11), (.r 12), (.r 13), (jc 2)]), jn (.bslice false whn false 7 [(.r 14), (.r 15), (.r 16)]), jn (.append whn false 7 (.r 1) (.r 17)), jn (.faddr 1 (.v 4)), jn (.store 1 (.r 19) (.r 18))])
  (.seq (jr [jn (.faddr 1 (.v 4)), jn (.load false 1 (.r 0)), jn (.bslice false t_int true 1 [(jc 3)]), jn (.iaddr 7 (.r 1) (jc 1)), jn (.faddr 4 (.r 3)), jn (.store 1 (.r 4) (.r 2))])
  (.seq (jr [jn (.faddr 1 (.v 4)), jn (.load false 1 (.r 0)), jn (.bslice false t_int true 1 [(jc 2)]), jn (.iaddr 7 (.r 1) (jc 1)), jn (.faddr 5 (.r 3)), jn (.store 1 (.r 4) (.r 2))])
  (.seq (jr [jn (.faddr 1 (.v 4)), jn (.load false 1 (.r 0)), jn (.bslice false t_int true 1 [(jc 2)]), jn (.iaddr 7 (.r 1) (jc 2)), jn (.faddr 4 (.r 3)), jn (.store 1 (.r 4) (.r 2))])
  (jr [jn (.faddr 1 (.v 4)), jn (.load false 1 (.r 0)), jn (.bslice false t_int true 1 [(jc 1)]), jn (.iaddr 7 (.r 1) (jc 2)), jn (.faddr 5 (.r 3)), jn (.store 1 (.r 4) (.r 2))]))))))))))))))))
  (.seq (jr [jn (.load true 2 (.v 4)), jn (.store 2 (.v 1) (.r 0))])
  .ret)))))),
  [.cell true 2 1]⟩
def wf7 : IFun := ⟨[0, 1, 4, 5, 6, 18, 32],
  (.seq (jr [js 2 (.nilrow t_int true 1)])
  (.seq (jr [js 3 (.mov (jc 0))])
  (.seq (.block 0 (.loop [true, true, false, true, false, false, false] (.seq (.seq (jr [jn (.mov (.v 3)), jn (.mov (.v 0)), jn (.len false (.r 1)), jn (.bin false .lss (.r 0) (.r 2)), jn (.mov (.r 3)), jt 4 (.mov (.v 0)), jt 4 (.mov (.v 3)), jt 4 (.iaddr 1 (.r 5) (.r 6)), jt 4 (.load false 1 (.r 7)), jt 4 (.mov (.v 1)), jt 4 (.bin false .lss (.r 8) (.r 9)), js 5 (.pick (.r 4) (.r 10) (.c (.bool false)))])
  (.cond (.v 5) .skip (.exit 0)))
  (.block 1 (jr [jn (.mov (.v 3)), jn (.bin false .add (.r 0) (jc 1)), js 3 (.mov (.r 1))])))))
  (.seq (.seq (jr [jn (.mov (.v 3)), jn (.mov (.v 0)), jn (.len false (.r 1)), jn (.bin false .lss (.r 0) (.r 2)), jn (.mov (.r 3)), jt 4 (.mov (.v 0)), jt 4 (.mov (.v 3)), jt 4 (.iaddr 1 (.r 5) (.r 6)), jt 4 (.load false 1 (.r 7)), jt 4 (.mov (.v 1)), jt 4 (.bin false .eql (.r 8) (.r 9)), js 6 (.pick (.r 4) (.r 10) (.c (.bool false)))])
  (.cond (.v 6) (.seq (jr [jn (.mov (.v 0)), js 2 (.mov (.r 0))])
  .ret) .skip))
  (.seq (jr [jn (.bslice false t_int true 1 []), jn (.mov (.v 0)), jn (.mov (.v 3)), jn (.slice 1 (.r 1) none (some (.r 2))), jn (.append t_int true 1 (.r 0) (.r 3)), js 4 (.mov (.r 4))])
  (.seq (jr [jn (.mov (.v 4)), jn (.mov (.v 1)), jn (.bslice false t_int true 1 [(.r 1)]), jn (.append t_int true 1 (.r 0) (.r 2)), js 4 (.mov (.r 3))])
  (.seq (jr [jn (.mov (.v 4)), jn (.mov (.v 0)), jn (.mov (.v 3)), jn (.slice 1 (.r 1) (some (.r 2)) none), jn (.append t_int true 1 (.r 0) (.r 3)), js 2 (.mov (.r 4))])
  .ret))))))),
  [.v 2]⟩
def wex : IFun := ⟨[0, 1, 2, 3, 8, 9, 10, 20],
  (.seq (jr [js 4 (.nilrow t_int true 1)])
  (.seq (jr [js 5 (.nilrow t_int true 1)])
  (.seq (.seq (jr [jn (.mov (.v 2)), jn (.mov (.v 0)), jn (.mov (.v 3)), jn (.mov (.v 2)), jn (.bin false .sub (.r 2) (.r 3)), jn (.bin false .add (.r 4) (jc 1)), jn (.callm w9u [(.r 1), (.r 5)]), jn (.bin false .add (.r 0) (.r 6)), js 6 (.mov (.r 7))])
  (.block 0 (.loop [true, true, false, false, false, true, true, false] (.seq (.seq (jr [jn (.mov (.v 6)), js 7 (.bin false .gtr (.r 0) (jc 0))])
  (.cond (.v 7) .skip (.exit 0)))
  (.seq (.block 1 (jr [jn (.mov (.v 5)), jn (.mov (.v 0)), jn (.mov (.v 1)), jn (.callm w9u [(.r 1), (.r 2)]), jn (.callm wa3 [(.r 0), (.r 3)]), js 5 (.mov (.r 4))]))
  (jr [jn (.mov (.v 6)), jn (.bin false .sub (.r 0) (jc 1)), js 6 (.mov (.r 1))]))))))
  (.seq (jr [jn (.mov (.v 5)), js 4 (.mov (.r 0))])
  .ret)))),
  [.v 4]⟩
def wev : IFun := ⟨[0, 1, 4],
  (.seq (jr [js 2 (.mov (.c (.bool false)))])
  (.seq (jr [jn (.mov (.v 0)), jn (.mov (.v 1)), jn (.callm w9u [(.r 0), (.r 1)]), jn (.bin false .eql (.r 2) (jc 0)), js 2 (.mov (.r 3))])
  .ret)),
  [.v 2]⟩
def wes : IFun := ⟨[0, 1, 4],
  (.seq (jr [js 2 (.mov (jc 0))])
  (.seq (jr [jn (.mov (.v 1)), jn (.mov (.v 0)), jn (.mov (.v 1)), jn (.len false (.r 2)), jn (.callm w9u [(.r 1), (.r 3)]), jn (.iaddr 1 (.r 0) (.r 4)), jn (.load false 1 (.r 5)), js 2 (.mov (.r 6))])
  .ret)),
  [.v 2]⟩
def wez : IFun := ⟨[0, 2, 3, 4, 13, 14, 24, 34, 52, 70, 81, 95],
  (.seq (jr [js 1 (.alloc whm [(.int .i64 0), (.nil false 7)])])
  (.seq (jr [jn (.mov (.v 0)), jn (.callm w9w [(.r 0)]), js 2 (.alloc whm [(.int .i64 0), (.nil false 7)]), jn (.store 2 (.v 2) (.r 1))])
  (.seq (jr [jn (.mov (.v 0)), jn (.faddr 1 (.v 2)), jn (.load false 1 (.r 1)), jn (.len false (.r 2)), jn (.callm w9u [(.r 0), (.r 3)]), js 3 (.mov (.r 4))])
  (.seq (.seq (jr [jn (.mov (.v 0)), js 4 (.callm w9u [(.r 0), (jc 10)])])
  (.block 0 (.seq (jr [jn (.bin false .eql (.v 4) (jc 0)), js 5 (.mov (.r 0))])
  (.cond (.v 5) (.region true [(4, 1)] [jn (.faddr 1 (.v 2)), jn (.load false 1 (.r 0)), jn (.mov (.v 3)), jn (.mov (.v 0)), jn (.callm w9u [(.r 3), (jc 3)]), jn (.bin false .add (jc 1) (.r 4)), jn (.iaddr 7 (.r 1) (.r 2)), jn (.faddr 1 (.r 6)), jn (.store 1 (.r 7) (.r 5))]) (.seq (jr [jn (.bin false .eql (.v 4) (jc 1)), js 6 (.mov (.r 0))])
  (.cond (.v 6) (.region true [(4, 1)] [jn (.faddr 1 (.v 2)), jn (.load false 1 (.r 0)), jn (.mov (.v 3)), jn (.mov (.v 0)), jn (.callm w9u [(.r 3), (jc 2)]), jn (.bin false .add (jc 1) (.r 4)), jn (.iaddr 7 (.r 1) (.r 2)), jn (.faddr 0 (.r 6)), jn (.store 1 (.r 7) (.r 5))]) (.seq (jr [jn (.bin false .eql (.v 4) (jc 2)), js 7 (.mov (.r 0))])
  (.cond (.v 7) (.region true [(12, 1), (12, 4), (12, 8), (13, 1)] [jn (.faddr 1 (.v 2)), jn (.load false 1 (.r 0)), jn (.mov (.v 3)), jn (.faddr 1 (.v 2)), jn (.load false 1 (.r 3)), jn (.mov (.v 3)), jn (.iaddr 7 (.r 4) (.r 5)), jn (.faddr 3 (.r 6)), jn (.load false 1 (.r 7)), jn (.mov (.v 0)), jn (.faddr 0 (.v 2)), jn (.load false 1 (.r 10)), jn (.callm w9u [(.r 9), (.r 11)]), jn (.callm wa3 [(.r 8), (.r 12)]), jn (.iaddr 7 (.r 1) (.r 2)), jn (.faddr 3 (.r 14)), jn (.store 1 (.r 15) (.r 13))]) (.seq (jr [jn (.bin false .eql (.v 4) (jc 3)), js 8 (.mov (.r 0))])
  (.cond (.v 8) (.region true [(12, 1), (12, 4), (12, 8), (13, 1)] [jn (.faddr 1 (.v 2)), jn (.load false 1 (.r 0)), jn (.mov (.v 3)), jn (.faddr 1 (.v 2)), jn (.load false 1 (.r 3)), jn (.mov (.v 3)), jn (.iaddr 7 (.r 4) (.r 5)), jn (.faddr 2 (.r 6)), jn (.load false 1 (.r 7)), jn (.mov (.v 0)), jn (.faddr 0 (.v 2)), jn (.load false 1 (.r 10)), jn (.callm w9u [(.r 9), (.r 11)]), jn (.callm wa3 [(.r 8), (.r 12)]), jn (.iaddr 7 (.r 1) (.r 2)), jn (.faddr 2 (.r 14)), jn (.store 1 (.r 15) (.r 13))]) (.seq (jr [jn (.bin false .eql (.v 4) (jc 4)), js 9 (.mov (.r 0))])
  (.cond (.v 9) (.region true [(6, 1)] [jn (.faddr 1 (.v 2)), jn (.load false 1 (.r 0)), jn (.mov (.v 3)), jn (.mov (.v 0)), jn (.faddr 0 (.v 2)), jn (.load false 1 (.r 4)), jn (.callm w9v [(.r 3), (.r 5), (jc 0), (jc 2)]), jn (.iaddr 7 (.r 1) (.r 2)), jn (.faddr 4 (.r 7)), jn (.store 1 (.r 8) (.r 6))]) (.seq (jr [jn (.bin false .eql (.v 4) (jc 5)), js 10 (.mov (.r 0))])
  (.cond (.v 10) (.region true [(7, 1), (8, 1)] [jn (.faddr 1 (.v 2)), jn (.load false 1 (.r 0)), jn (.mov (.v 3)), jn (.mov (.v 0)), jn (.faddr 1 (.v 2)), jn (.load false 1 (.r 4)), jn (.len false (.r 5)), jn (.callm w9u [(.r 3), (.r 6)]), jn (.bslice false t_int true 1 [(.r 7)]), jn (.iaddr 7 (.r 1) (.r 2)), jn (.faddr 5 (.r 9)), jn (.store 1 (.r 10) (.r 8))]) .skip))))))))))))))
  (.seq (.seq (jr [jn (.mov (.v 0)), js 11 (.callm w9t [(.r 0), (jc 40)])])
  (.cond (.v 11) (jr [jn (.mov (.v 0)), jn (.bslice false t_int true 1 [(jc 1), (jc 8), (jc 9)]), jn (.callm w9q [(.r 0), (.r 1)]), jn (.faddr 0 (.v 2)), jn (.store 1 (.r 3) (.r 2))]) .skip))
  (.seq (jr [jn (.load true 2 (.v 2)), jn (.store 2 (.v 1) (.r 0))])
  .ret)))))),
  [.cell true 2 1]⟩
def wf4 : IFun := ⟨[0, 1, 2, 6],
  (.seq (jr [js 3 (.mov (.c (.bool false)))])
  (.seq (jr [jn (.mov (.v 0)), jn (.mov (.v 1)), jn (.bin false .geq (.r 0) (.r 1)), jn (.mov (.r 2)), jt 3 (.mov (.v 0)), jt 3 (.mov (.v 2)), jt 3 (.bin false .leq (.r 4) (.r 5)), jn (.pick (.r 3) (.r 6) (.c (.bool false))), js 3 (.mov (.r 7))])
  .ret)),
  [.v 3]⟩
def wf3 : IFun := ⟨[0, 1, 4, 6, 7, 8, 9, 10, 15],
  (.seq (jr [js 2 (.mov (.c (.bool false)))])
  (.seq (.seq (jr [js 4 (.mov (.v 0)), js 5 (.len false (.v 4)), js 6 (.mov (jc 0))])
  (.block 0 (.loop [false, true, false, false, true, true, true, false, false] (.seq (jr [js 7 (.bin false .lss (.v 6) (.v 5))])
  (.seq (.cond (.v 7) .skip (.exit 0))
  (.seq (.block 1 (.seq (jr [jn (.iaddr 1 (.v 4) (.v 6)), jn (.load false 1 (.r 0)), js 3 (.mov (.r 1))])
  (.seq (jr [jn (.mov (.v 3)), jn (.mov (.v 1)), js 8 (.bin false .eql (.r 0) (.r 1))])
  (.cond (.v 8) (.seq (jr [js 2 (.mov (.c (.bool true)))])
  .ret) .skip))))
  (jr [jn (.bin false .add (.v 6) (jc 1)), js 6 (.mov (.r 0))])))))))
  (.seq (jr [js 2 (.mov (.c (.bool false)))])
  .ret))),
  [.v 2]⟩
def wf8 : IFun := ⟨[0, 1, 2, 6, 7, 8, 9, 10, 11, 12, 33],
  (.seq (jr [js 3 (.mov (.c (.bool false)))])
  (.seq (.seq (jr [js 6 (.mov (.v 0)), js 7 (.len false (.v 6)), js 8 (.mov (jc 0))])
  (.block 0 (.loop [true, true, true, false, false, false, true, true, true, false, false] (.seq (jr [js 9 (.bin false .lss (.v 8) (.v 7))])
  (.seq (.cond (.v 9) .skip (.exit 0))
  (.seq (.block 1 (.seq (jr [jn (.mov (.v 8)), jn (.iaddr 1 (.v 6) (.v 8)), jn (.load false 1 (.r 1)), js 4 (.mov (.r 0)), js 5 (.mov (.r 2))])
  (.seq (jr [jn (.mov (.v 5)), jn (.mov (.v 1)), jn (.mov (.v 2)), jn (.call false wa0 [(.r 0), (.r 1), (.r 2)]), jn (.not (.r 3)), jn (.mov (.r 4)), jf 5 (.mov (.v 4)), jf 5 (.bin false .gtr (.r 6) (jc 0)), jf 5 (.mov (.r 7)), jt 8 (.mov (.v 0)), jt 8 (.mov (.v 4)), jt 8 (.bin false .sub (.r 10) (jc 1)), jt 8 (.iaddr 1 (.r 9) (.r 11)), jt 8 (.load false 1 (.r 12)), jt 8 (.mov (.v 5)), jt 8 (.bin false .geq (.r 13) (.r 14)), jf 5 (.pick (.r 8) (.r 15) (.c (.bool false))), js 10 (.pick (.r 5) (.c (.bool true)) (.r 16))])
  (.cond (.v 10) (.seq (jr [js 3 (.mov (.c (.bool false)))])
  .ret) .skip))))
  (jr [jn (.bin false .add (.v 8) (jc 1)), js 8 (.mov (.r 0))])))))))
  (.seq (jr [js 3 (.mov (.c (.bool true)))])
  .ret))),
  [.v 3]⟩
def wen : IFun := ⟨[0, 1, 2, 4, 5, 26, 44],
  (.seq (jr [js 2 (.box whm 2 (.v 0)), js 3 (.mov (.c (.bool false)))])
  (.seq (jr [jn (.faddr 1 (.v 2)), jn (.load false 1 (.r 0)), jn (.mov (.v 1)), jn (.iaddr 7 (.r 1) (.r 2)), jn (.load true 7 (.r 3)), js 4 (.alloc whn [(.int .i64 0), (.int .i64 0), (.nil true 1), (.nil true 1), (.nil true 1), (.nil true 1), (.int .i64 0)]), jn (.store 7 (.v 4) (.r 4))])
  (.seq (.seq (jr [jn (.faddr 0 (.v 4)), jn (.load false 1 (.r 0)), jn (.call false wa0 [(.r 1), (jc 1), (jc 2)]), jn (.not (.r 2)), jn (.mov (.r 3)), jf 4 (.faddr 1 (.v 4)), jf 4 (.load false 1 (.r 5)), jf 4 (.call false wa0 [(.r 6), (jc 1), (jc 3)]), jf 4 (.not (.r 7)), jn (.pick (.r 4) (.c (.bool true)) (.r 8)), jn (.mov (.r 9)), jf 10 (.faddr 6 (.v 4)), jf 10 (.load false 1 (.r 11)), jf 10 (.call false wa0 [(.r 12), (jc 0), (jc 3)]), jf 10 (.not (.r 13)), js 5 (.pick (.r 10) (.c (.bool true)) (.r 14))])
  (.cond (.v 5) (.seq (jr [js 3 (.mov (.c (.bool false)))])
  .ret) .skip))
  (.seq (.seq (jr [jn (.faddr 2 (.v 4)), jn (.load false 1 (.r 0)), jn (.len false (.r 1)), jn (.call false wa0 [(.r 2), (jc 1), (jc 3)]), jn (.not (.r 3)), jn (.mov (.r 4)), jf 5 (.faddr 3 (.v 4)), jf 5 (.load false 1 (.r 6)), jf 5 (.len false (.r 7)), jf 5 (.call false wa0 [(.r 8), (jc 1), (jc 3)]), jf 5 (.not (.r 9)), jn (.pick (.r 5) (.c (.bool true)) (.r 10)), jn (.mov (.r 11)), jf 12 (.faddr 5 (.v 4)), jf 12 (.load false 1 (.r 13)), jf 12 (.mov (.v 1)), jf 12 (.call false w9z [(.r 14), (.r 15)]), js 6 (.pick (.r 12) (.c (.bool true)) (.r 16))])
  (.cond (.v 6) (.seq (jr [js 3 (.mov (.c (.bool false)))])
  .ret) .skip))
  (.seq (jr [jn (.faddr 2 (.v 4)), jn (.load false 1 (.r 0)), jn (.faddr 0 (.v 2)), jn (.load false 1 (.r 2)), jn (.bin false .sub (.r 3) (jc 1)), jn (.call false wa4 [(.r 1), (jc 0), (.r 4)]), jn (.mov (.r 5)), jt 6 (.faddr 3 (.v 4)), jt 6 (.load false 1 (.r 7)), jt 6 (.faddr 0 (.v 2)), jt 6 (.load false 1 (.r 9)), jt 6 (.bin false .sub (.r 10) (jc 1)), jt 6 (.call false wa4 [(.r 8), (jc 0), (.r 11)]), jn (.pick (.r 6) (.r 12) (.c (.bool false))), jn (.mov (.r 13)), jt 14 (.faddr 4 (.v 4)), jt 14 (.load false 1 (.r 15)), jt 14 (.faddr 0 (.v 2)), jt 14 (.load false 1 (.r 17)), jt 14 (.bin false .sub (.r 18) (jc 1)), jt 14 (.call false wa4 [(.r 16), (jc 2), (.r 19)]), jn (.pick (.r 14) (.r 20) (.c (.bool false))), jn (.mov (.r 21)), jt 22 (.faddr 5 (.v 4)), jt 22 (.load false 1 (.r 23)), jt 22 (.faddr 1 (.v 2)), jt 22 (.load false 1 (.r 25)), jt 22 (.len false (.r 26)), jt 22 (.bin false .sub (.r 27) (jc 1)), jt 22 (.call false wa4 [(.r 24), (jc 0), (.r 28)]), jn (.pick (.r 22) (.r 29) (.c (.bool false))), js 3 (.mov (.r 30))])
  .ret))))),
  [.v 3]⟩
def wf5 : IFun := ⟨[0, 2],
  (.seq (jr [js 1 (.nilrow t_int true 1)])
  (.seq (jr [jn (.bslice false t_int true 1 []), jn (.mov (.v 0)), jn (.append t_int true 1 (.r 0) (.r 1)), js 1 (.mov (.r 2))])
  .ret)),
  [.v 1]⟩
def wf9 : IFun := ⟨[0, 2, 3, 4, 9, 17],
  (.seq (jr [js 1 (.nilrow t_int true 1)])
  (.seq (jr [js 2 (.nilrow t_int true 1)])
  (.seq (.seq (jr [js 3 (.mov (jc 0))])
  (.block 0 (.loop [true, false, true, true, false, false] (.seq (.seq (jr [jn (.mov (.v 0)), jn (.mov (.v 3)), jn (.conv .u64 (.r 1)), jn (.bin false .shr (.r 0) (.r 2)), js 4 (.bin false .gtr (.r 3) (jc 0))])
  (.cond (.v 4) .skip (.exit 0)))
  (.seq (.block 1 (.seq (jr [jn (.mov (.v 0)), jn (.mov (.v 3)), jn (.conv .u64 (.r 1)), jn (.bin false .shr (.r 0) (.r 2)), jn (.bin false .and (.r 3) (jc 1)), js 5 (.bin false .eql (.r 4) (jc 1))])
  (.cond (.v 5) (jr [jn (.mov (.v 2)), jn (.mov (.v 3)), jn (.bslice false t_int true 1 [(.r 1)]), jn (.append t_int true 1 (.r 0) (.r 2)), js 2 (.mov (.r 3))]) .skip)))
  (jr [jn (.mov (.v 3)), jn (.bin false .add (.r 0) (jc 1)), js 3 (.mov (.r 1))]))))))
  (.seq (jr [jn (.mov (.v 2)), js 1 (.mov (.r 0))])
  .ret)))),
  [.v 1]⟩
def wem : IFun := ⟨[0, 1, 4, 5, 7, 9, 10, 11, 12],
  (.seq (jr [js 2 (.nilrow t_int true 1)])
  (.seq (jr [js 3 (.nilrow t_int true 1)])
  (.seq (.seq (jr [jn (.mov (.v 1)), js 5 (.call false wa5 [(.r 0)]), js 6 (.len false (.v 5)), js 7 (.mov (jc 0))])
  (.block 0 (.loop [true, false, false, true, false, true, true, true, false] (.seq (jr [js 8 (.bin false .lss (.v 7) (.v 6))])
  (.seq (.cond (.v 8) .skip (.exit 0))
  (.seq (.block 1 (.seq (jr [jn (.iaddr 1 (.v 5) (.v 7)), jn (.load false 1 (.r 0)), js 4 (.mov (.r 1))])
  (jr [jn (.mov (.v 3)), jn (.mov (.v 0)), jn (.mov (.v 4)), jn (.iaddr 1 (.r 1) (.r 2)), jn (.load false 1 (.r 3)), jn (.bslice false t_int true 1 [(.r 4)]), jn (.append t_int true 1 (.r 0) (.r 5)), js 3 (.mov (.r 6))])))
  (jr [jn (.bin false .add (.v 7) (jc 1)), js 7 (.mov (.r 0))])))))))
  (.seq (jr [jn (.mov (.v 3)), js 2 (.mov (.r 0))])
  .ret)))),
  [.v 2]⟩
def wel : IFun := ⟨[0, 1, 2, 4, 5, 7, 20, 21, 22, 23],
  (.seq (jr [js 2 (.box whm 2 (.v 0)), js 3 (.nilrow t_int true 1)])
  (.seq (jr [jn (.faddr 1 (.v 2)), jn (.load false 1 (.r 0)), jn (.mov (.v 1)), jn (.iaddr 7 (.r 1) (.r 2)), jn (.faddr 4 (.r 3)), jn (.load false 1 (.r 4)), jn (.call false wa1 [(.r 5)]), js 4 (.mov (.r 6))])
  (.seq (.seq (jr [jn (.faddr 1 (.v 2)), jn (.load false 1 (.r 0)), jn (.mov (.v 1)), jn (.iaddr 7 (.r 1) (.r 2)), jn (.faddr 5 (.r 3)), js 6 (.load false 1 (.r 4)), js 7 (.len false (.v 6)), js 8 (.mov (jc 0))])
  (.block 0 (.loop [false, false, true, false, true, false, true, true, true, false] (.seq (jr [js 9 (.bin false .lss (.v 8) (.v 7))])
  (.seq (.cond (.v 9) .skip (.exit 0))
  (.seq (.block 1 (.seq (jr [jn (.iaddr 1 (.v 6) (.v 8)), jn (.load false 1 (.r 0)), js 5 (.mov (.r 1))])
  (jr [jn (.mov (.v 4)), jn (.faddr 0 (.v 2)), jn (.load false 1 (.r 1)), jn (.mov (.v 5)), jn (.bin false .add (.r 2) (.r 3)), jn (.bslice false t_int true 1 [(.r 4)]), jn (.append t_int true 1 (.r 0) (.r 5)), js 4 (.mov (.r 6))])))
  (jr [jn (.bin false .add (.v 8) (jc 1)), js 8 (.mov (.r 0))])))))))
  (.seq (jr [jn (.mov (.v 4)), js 3 (.mov (.r 0))])
  .ret)))),
  [.v 3]⟩
def wej : IFun := ⟨[0, 1, 2, 3, 4, 5, 6, 7, 8, 9, 11, 12, 13, 14, 15, 17, 18, 19, 20, 30, 31, 32, 33, 47, 49, 50, 51, 52, 61, 62, 63, 64, 91, 92, 95, 96, 97, 98, 107, 115, 125, 126, 127, 128],
  (.seq (jr [js 1 (.box whm 2 (.v 0)), js 2 (.alloc whi [(.int .i64 0), (.nil false 3), (.int .i64 0), (.int .i64 0)]), js 3 (.nilrow whj true 3)])
  (.seq (jr [jn (.faddr 0 (.v 1)), jn (.load false 1 (.r 0)), jn (.faddr 1 (.v 1)), jn (.load false 1 (.r 2)), jn (.len false (.r 3)), jn (.bin false .add (.r 1) (.r 4)), jn (.build [(.int .i64 0), (.nil false 3)] [(0, 1, (.r 5))]), jn (.build [(.int .i64 0), (.nil false 3), (.int .i64 0), (.int .i64 0)] [(0, 2, (.r 6)), (2, 1, (jc 0)), (3, 1, (jc 1))]), js 4 (.alloc whi [(.int .i64 0), (.nil false 3), (.int .i64 0), (.int .i64 0)]), jn (.store 4 (.v 4) (.r 7))])
  (.seq (jr [js 5 (.nilrow whj true 3)])
  (.seq (.seq (jr [jn (.faddr 1 (.v 1)), js 19 (.load false 1 (.r 0)), js 20 (.len false (.v 19)), js 21 (.mov (jc 0))])
  (.block 0 (.loop [false, true, true, false, true, true, false, false, false, false, false, false, false, false, false, false, false, false, false, true, true, true, false, false, false, false, false, false, false, false, false, false, false, false, false, false, false, false, false, false, false, false, false, false] (.seq (jr [js 22 (.bin false .lss (.v 21) (.v 20))])
  (.seq (.cond (.v 22) .skip (.exit 0))
  (.seq (.block 1 (.seq (jr [jn (.mov (.v 21)), jn (.iaddr 7 (.v 19) (.v 21)), jn (.load true 7 (.r 1)), js 7 (.alloc whn [(.int .i64 0), (.int .i64 0), (.nil true 1), (.nil true 1), (.nil true 1), (.nil true 1), (.int .i64 0)]), js 6 (.mov (.r 0)), jn (.store 7 (.v 7) (.r 2))])
  (.seq (jr [jn (.faddr 0 (.v 1)), jn (.load false 1 (.r 0)), jn (.mov (.v 6)), jn (.bin false .add (.r 1) (.r 2)), jn (.bslice false t_int true 1 [(.r 3)]), js 8 (.mov (.r 4))])
  (.seq (jr [jn (.faddr 2 (.v 7)), jn (.load false 1 (.r 0)), jn (.bslice false whs false 1 [(.r 1)]), js 9 (.mov (.r 2))])
  (.seq (.seq (jr [jn (.faddr 0 (.v 7)), jn (.load false 1 (.r 0)), js 23 (.bin false .eql (.r 1) (jc 2))])
  (.cond (.v 23) (.seq (jr [js 9 (.nilrow whs false 1)])
  (.seq (jr [jn (.faddr 2 (.v 7)), js 24 (.load false 1 (.r 0)), js 25 (.len false (.v 24)), js 26 (.mov (jc 0))])
  (.block 2 (.loop [false, true, true, false, true, true, true, true, true, true, false, false, false, false, false, false, false, false, false, true, true, true, false, false, true, true, true, false, false, false, false, false, false, false, false, false, false, false, false, false, false, false, false, false] (.seq (jr [js 27 (.bin false .lss (.v 26) (.v 25))])
  (.seq (.cond (.v 27) .skip (.exit 2))
  (.seq (.block 3 (.seq (jr [jn (.iaddr 1 (.v 24) (.v 26)), jn (.load false 1 (.r 0)), js 10 (.mov (.r 1))])
  (jr [jn (.mov (.v 9)), jn (.mov (.v 10)), jn (.bslice false t_int true 1 [(.r 1)]), jn (.bslice false whs false 1 [(.r 2)]), jn (.append whs false 1 (.r 0) (.r 3)), js 9 (.mov (.r 4))])))
  (jr [jn (.bin false .add (.v 26) (jc 1)), js 26 (.mov (.r 0))])))))))) .skip))
  (.seq (.seq (jr [js 28 (.mov (.v 9)), js 29 (.len false (.v 28)), js 30 (.mov (jc 0))])
  (.block 4 (.loop [false, true, true, false, true, true, true, true, true, false, false, false, false, false, false, false, false, false, false, true, true, true, false, false, false, false, false, false, true, true, true, false, false, false, false, false, false, false, false, false, false, false, false, false] (.seq (jr [js 31 (.bin false .lss (.v 30) (.v 29))])
  (.seq (.cond (.v 31) .skip (.exit 4))
  (.seq (.block 5 (.seq (jr [jn (.mov (.v 30)), jn (.iaddr 1 (.v 28) (.v 30)), jn (.load false 1 (.r 1)), js 11 (.mov (.r 0)), js 12 (.mov (.r 2))])
  (.seq (.region true [(5, 2), (6, 2), (8, 2)] [jn (.faddr 0 (.v 4)), jn (.faddr 1 (.r 0)), jn (.load false 1 (.r 1)), jn (.mov (.v 12)), jn (.mov (.v 8)), jn (.call false wa1 [(.r 3)]), jn (.call false wa1 [(.r 4)]), jn (.build [(.nil true 1), (.nil true 1), (.nil true 1)] [(0, 1, (.r 5)), (1, 1, (.r 6))]), jn (.bslice false whp false 3 [(.r 7)]), jn (.append whp false 3 (.r 2) (.r 8)), jn (.faddr 0 (.v 4)), jn (.faddr 1 (.r 10)), jn (.store 1 (.r 11) (.r 9))])
  (jr [jn (.mov (.v 5)), jn (.mov (.v 6)), jn (.mov (.v 11)), jn (.build [(.int .i64 0), (.bool false), (.int .i64 0)] [(0, 1, (.r 1)), (1, 1, (.c (.bool true))), (2, 1, (.r 2))]), jn (.bslice false whj true 3 [(.r 3)]), jn (.append whj true 3 (.r 0) (.r 4)), js 5 (.mov (.r 5))]))))
  (jr [jn (.bin false .add (.v 30) (jc 1)), js 30 (.mov (.r 0))])))))))
  (.seq (jr [jn (.faddr 3 (.v 7)), jn (.load false 1 (.r 0)), jn (.bslice false whs false 1 [(.r 1)]), js 13 (.mov (.r 2))])
  (.seq (jr [js 14 (.mov (jc 0))])
  (.seq (.seq (jr [jn (.faddr 1 (.v 7)), js 32 (.load false 1 (.r 0))])
  (.block 6 (.seq (jr [jn (.bin false .eql (.v 32) (jc 2)), js 33 (.mov (.r 0))])
  (.cond (.v 33) (.seq (jr [js 13 (.nilrow whs false 1)])
  (.seq (jr [jn (.faddr 3 (.v 7)), js 34 (.load false 1 (.r 0)), js 35 (.len false (.v 34)), js 36 (.mov (jc 0))])
  (.block 7 (.loop [false, true, true, false, true, true, true, false, true, false, false, false, false, true, true, false, false, false, false, true, true, true, false, false, false, false, false, false, false, false, false, false, false, false, true, true, true, false, false, false, false, false, false, false] (.seq (jr [js 37 (.bin false .lss (.v 36) (.v 35))])
  (.seq (.cond (.v 37) .skip (.exit 7))
  (.seq (.block 8 (.seq (jr [jn (.iaddr 1 (.v 34) (.v 36)), jn (.load false 1 (.r 0)), js 15 (.mov (.r 1))])
  (jr [jn (.mov (.v 13)), jn (.mov (.v 15)), jn (.bslice false t_int true 1 [(.r 1)]), jn (.bslice false whs false 1 [(.r 2)]), jn (.append whs false 1 (.r 0) (.r 3)), js 13 (.mov (.r 4))])))
  (jr [jn (.bin false .add (.v 36) (jc 1)), js 36 (.mov (.r 0))])))))))) (.seq (jr [jn (.bin false .eql (.v 32) (jc 3)), js 38 (.mov (.r 0))])
  (.cond (.v 38) (.seq (jr [js 13 (.nilrow whs false 1)])
  (.seq (jr [js 14 (.mov (jc 1))])
  (.seq (jr [js 16 (.mov (jc 1))])
  (.block 9 (.loop [false, true, true, false, true, true, true, true, true, false, false, false, false, true, true, false, true, false, false, true, true, true, false, false, false, false, false, false, false, false, false, false, false, false, false, false, false, false, false, false, false, false, false, false] (.seq (.seq (jr [jn (.mov (.v 16)), jn (.faddr 3 (.v 7)), jn (.load false 1 (.r 1)), jn (.len false (.r 2)), jn (.conv .u64 (.r 3)), jn (.bin false .shl (jc 1) (.r 4)), js 39 (.bin false .lss (.r 0) (.r 5))])
  (.cond (.v 39) .skip (.exit 9)))
  (.seq (.block 10 (jr [jn (.mov (.v 13)), jn (.faddr 3 (.v 7)), jn (.load false 1 (.r 1)), jn (.mov (.v 16)), jn (.call false w9k [(.r 2), (.r 3)]), jn (.bslice false whs false 1 [(.r 4)]), jn (.append whs false 1 (.r 0) (.r 5)), js 13 (.mov (.r 6))]))
  (jr [jn (.mov (.v 16)), jn (.bin false .add (.r 0) (jc 1)), js 16 (.mov (.r 1))])))))))) .skip))))))
  (.seq (jr [js 40 (.mov (.v 13)), js 41 (.len false (.v 40)), js 42 (.mov (jc 0))])
  (.block 11 (.loop [false, true, true, false, true, true, true, false, true, false, false, false, false, false, true, false, false, false, false, true, true, true, false, false, false, false, false, false, false, false, false, false, false, false, false, false, false, false, false, false, true, true, true, false] (.seq (jr [js 43 (.bin false .lss (.v 42) (.v 41))])
  (.seq (.cond (.v 43) .skip (.exit 11))
  (.seq (.block 12 (.seq (jr [jn (.mov (.v 42)), jn (.iaddr 1 (.v 40) (.v 42)), jn (.load false 1 (.r 1)), js 17 (.mov (.r 0)), js 18 (.mov (.r 2))])
  (.seq (.region true [(7, 2), (7, 5), (8, 2), (8, 5), (9, 2), (11, 2)] [jn (.faddr 0 (.v 4)), jn (.faddr 1 (.r 0)), jn (.load false 1 (.r 1)), jn (.mov (.v 8)), jn (.mov (.v 18)), jn (.load true 2 (.v 1)), jn (.mov (.v 6)), jn (.call false wa1 [(.r 3)]), jn (.call false wa1 [(.r 4)]), jn (.call false w9j [(.r 5), (.r 6)]), jn (.build [(.nil true 1), (.nil true 1), (.nil true 1)] [(0, 1, (.r 7)), (1, 1, (.r 8)), (2, 1, (.r 9))]), jn (.bslice false whp false 3 [(.r 10)]), jn (.append whp false 3 (.r 2) (.r 11)), jn (.faddr 0 (.v 4)), jn (.faddr 1 (.r 13)), jn (.store 1 (.r 14) (.r 12))])
  (jr [jn (.mov (.v 5)), jn (.mov (.v 6)), jn (.mov (.v 14)), jn (.mov (.v 17)), jn (.bin false .add (.r 2) (.r 3)), jn (.build [(.int .i64 0), (.bool false), (.int .i64 0)] [(0, 1, (.r 1)), (2, 1, (.r 4))]), jn (.bslice false whj true 3 [(.r 5)]), jn (.append whj true 3 (.r 0) (.r 6)), js 5 (.mov (.r 7))]))))
  (jr [jn (.bin false .add (.v 42) (jc 1)), js 42 (.mov (.r 0))]))))))))))))))))
  (jr [jn (.bin false .add (.v 21) (jc 1)), js 21 (.mov (.r 0))])))))))
  (.seq (jr [jn (.load true 4 (.v 4)), jn (.mov (.v 5)), jn (.store 4 (.v 2) (.r 0)), js 3 (.mov (.r 1))])
  .ret))))),
  [.cell true 4 2, .v 3]⟩
def wf6 : IFun := ⟨[0, 2],
  (.seq (jr [js 1 (.mov (.c (.bool false)))])
  (.seq (jr [jn (.mov (.v 0)), jn (.call false wa0 [(.r 0), (jc 1), (jc 16)]), js 1 (.mov (.r 1))])
  .ret)),
  [.v 1]⟩
def wee : IFun := ⟨[0, 1, 2, 4, 14, 16, 17, 18, 19, 52],
  (.seq (jr [js 1 (.box whk 2 (.v 0)), js 2 (.mov (.c (.bool false)))])
  (.seq (.seq (jr [jn (.faddr 0 (.v 1)), jn (.load false 1 (.r 0)), jn (.call false wa2 [(.r 1)]), jn (.not (.r 2)), jn (.mov (.r 3)), jf 4 (.faddr 1 (.v 1)), jf 4 (.load false 1 (.r 5)), jf 4 (.len false (.r 6)), jf 4 (.bin false .gtr (.r 7) (jc 24)), js 4 (.pick (.r 4) (.c (.bool true)) (.r 8))])
  (.cond (.v 4) (.seq (jr [js 2 (.mov (.c (.bool false)))])
  .ret) .skip))
  (.seq (.seq (jr [jn (.faddr 1 (.v 1)), js 5 (.load false 1 (.r 0)), js 6 (.len false (.v 5)), js 7 (.mov (jc 0))])
  (.block 0 (.loop [false, true, false, false, false, true, true, true, false, false] (.seq (jr [js 8 (.bin false .lss (.v 7) (.v 6))])
  (.seq (.cond (.v 8) .skip (.exit 0))
  (.seq (.block 1 (.seq (jr [jn (.iaddr 3 (.v 5) (.v 7)), jn (.load true 3 (.r 0)), js 3 (.alloc whp [(.nil true 1), (.nil true 1), (.nil true 1)]), jn (.store 3 (.v 3) (.r 1))])
  (.seq (jr [jn (.faddr 0 (.v 3)), jn (.load false 1 (.r 0)), jn (.len false (.r 1)), jn (.bin false .eql (.r 2) (jc 0)), jn (.mov (.r 3)), jf 4 (.faddr 0 (.v 3)), jf 4 (.load false 1 (.r 5)), jf 4 (.faddr 0 (.v 1)), jf 4 (.load false 1 (.r 7)), jf 4 (.bin false .sub (.r 8) (jc 1)), jf 4 (.call false wa4 [(.r 6), (jc 0), (.r 9)]), jf 4 (.not (.r 10)), jn (.pick (.r 4) (.c (.bool true)) (.r 11)), jn (.mov (.r 12)), jf 13 (.faddr 1 (.v 3)), jf 13 (.load false 1 (.r 14)), jf 13 (.faddr 0 (.v 1)), jf 13 (.load false 1 (.r 16)), jf 13 (.bin false .sub (.r 17) (jc 1)), jf 13 (.call false wa4 [(.r 15), (jc 0), (.r 18)]), jf 13 (.not (.r 19)), jn (.pick (.r 13) (.c (.bool true)) (.r 20)), jn (.mov (.r 21)), jf 22 (.faddr 2 (.v 3)), jf 22 (.load false 1 (.r 23)), jf 22 (.faddr 0 (.v 1)), jf 22 (.load false 1 (.r 25)), jf 22 (.bin false .sub (.r 26) (jc 1)), jf 22 (.call false wa4 [(.r 24), (jc 0), (.r 27)]), jf 22 (.not (.r 28)), js 9 (.pick (.r 22) (.c (.bool true)) (.r 29))])
  (.cond (.v 9) (.seq (jr [js 2 (.mov (.c (.bool false)))])
  .ret) .skip))))
  (jr [jn (.bin false .add (.v 7) (jc 1)), js 7 (.mov (.r 0))])))))))
  (.seq (jr [js 2 (.mov (.c (.bool true)))])
  .ret)))),
  [.v 2]⟩
def wfg : IFun := ⟨[0, 1, 2, 4, 5, 6, 7, 8, 9, 10, 11, 13, 15, 26, 28, 29, 30, 31, 36, 37, 38, 39, 57, 62, 63, 64, 65],
  (.seq (jr [js 2 (.box whk 2 (.v 0)), js 3 (.nilrow whf true 1), js 4 (.nilrow whf true 1)])
  (.seq (jr [jn (.faddr 0 (.v 2)), jn (.load false 1 (.r 0)), jn (.mk whf true 1 (.bool false) (.r 1)), js 5 (.mov (.r 2))])
  (.seq (jr [jn (.faddr 1 (.v 2)), jn (.load false 1 (.r 0)), jn (.len false (.r 1)), jn (.mk whf true 1 (.bool false) (.r 2)), js 6 (.mov (.r 3))])
  (.seq (jr [jn (.mov (.v 5)), jn (.mov (.v 1)), jn (.iaddr 1 (.r 0) (.r 1)), jn (.store 1 (.r 2) (.c (.bool true)))])
  (.seq (.seq (jr [js 7 (.mov (.c (.bool true)))])
  (.block 0 (.loop [false, false, true, false, false, true, true, true, false, false, false, false, false, false, false, false, false, false, false, false, false, false, false, false, false, false, false] (.seq (.seq (jr [js 13 (.mov (.v 7))])
  (.cond (.v 13) .skip (.exit 0)))
  (.block 1 (.seq (jr [js 7 (.mov (.c (.bool false)))])
  (.seq (jr [jn (.faddr 1 (.v 2)), js 14 (.load false 1 (.r 0)), js 15 (.len false (.v 14)), js 16 (.mov (jc 0))])
  (.block 2 (.loop [false, false, true, false, false, true, true, true, false, false, false, false, false, false, true, true, true, false, false, false, false, false, false, false, false, false, false] (.seq (jr [js 17 (.bin false .lss (.v 16) (.v 15))])
  (.seq (.cond (.v 17) .skip (.exit 2))
  (.seq (.block 3 (.seq (jr [jn (.mov (.v 16)), jn (.iaddr 3 (.v 14) (.v 16)), jn (.load true 3 (.r 1)), js 9 (.alloc whp [(.nil true 1), (.nil true 1), (.nil true 1)]), js 8 (.mov (.r 0)), jn (.store 3 (.v 9) (.r 2))])
  (.seq (jr [js 10 (.mov (.c (.bool false)))])
  (.seq (.seq (jr [jn (.faddr 0 (.v 9)), js 18 (.load false 1 (.r 0)), js 19 (.len false (.v 18)), js 20 (.mov (jc 0))])
  (.block 4 (.loop [false, false, true, false, false, true, true, true, true, true, true, false, false, false, true, true, true, false, true, true, true, false, false, false, false, false, false] (.seq (jr [js 21 (.bin false .lss (.v 20) (.v 19))])
  (.seq (.cond (.v 21) .skip (.exit 4))
  (.seq (.block 5 (.seq (jr [jn (.iaddr 1 (.v 18) (.v 20)), jn (.load false 1 (.r 0)), js 11 (.mov (.r 1))])
  (jr [jn (.mov (.v 10)), jn (.mov (.r 0)), jf 1 (.mov (.v 5)), jf 1 (.mov (.v 11)), jf 1 (.iaddr 1 (.r 2) (.r 3)), jf 1 (.load false 1 (.r 4)), jn (.pick (.r 1) (.c (.bool true)) (.r 5)), js 10 (.mov (.r 6))])))
  (jr [jn (.bin false .add (.v 20) (jc 1)), js 20 (.mov (.r 0))])))))))
  (.seq (.seq (jr [jn (.mov (.v 10)), jn (.not (.r 0)), jn (.mov (.r 1)), jf 2 (.mov (.v 6)), jf 2 (.mov (.v 8)), jf 2 (.iaddr 1 (.r 3) (.r 4)), jf 2 (.load false 1 (.r 5)), js 22 (.pick (.r 2) (.c (.bool true)) (.r 6))])
  (.cond (.v 22) (.exit 3) .skip))
  (.seq (jr [jn (.mov (.v 6)), jn (.mov (.v 8)), jn (.iaddr 1 (.r 0) (.r 1)), jn (.store 1 (.r 2) (.c (.bool true)))])
  (.seq (jr [js 7 (.mov (.c (.bool true)))])
  (.seq (jr [jn (.faddr 1 (.v 9)), js 23 (.load false 1 (.r 0)), js 24 (.len false (.v 23)), js 25 (.mov (jc 0))])
  (.block 6 (.loop [false, false, true, false, false, true, true, true, false, false, false, false, false, false, true, true, true, false, false, false, false, false, false, true, true, true, false] (.seq (jr [js 26 (.bin false .lss (.v 25) (.v 24))])
  (.seq (.cond (.v 26) .skip (.exit 6))
  (.seq (.block 7 (.seq (jr [jn (.iaddr 1 (.v 23) (.v 25)), jn (.load false 1 (.r 0)), js 12 (.mov (.r 1))])
  (jr [jn (.mov (.v 5)), jn (.mov (.v 12)), jn (.iaddr 1 (.r 0) (.r 1)), jn (.store 1 (.r 2) (.c (.bool true)))])))
  (jr [jn (.bin false .add (.v 25) (jc 1)), js 25 (.mov (.r 0))]))))))))))))))
  (jr [jn (.bin false .add (.v 16) (jc 1)), js 16 (.mov (.r 0))])))))))))))))
  (.seq (jr [jn (.mov (.v 5)), jn (.mov (.v 6)), js 3 (.mov (.r 0)), js 4 (.mov (.r 1))])
  .ret)))))),
  [.v 3, .v 4]⟩
def wfe : IFun := ⟨[0, 1, 2, 4, 5, 6, 7, 8, 9, 10, 11, 13, 15, 26, 28, 29, 30, 31, 36, 37, 38, 39, 57, 62, 63, 64, 65],
  (.seq (jr [js 2 (.box whk 2 (.v 0)), js 3 (.nilrow whf true 1), js 4 (.nilrow whf true 1)])
  (.seq (jr [jn (.faddr 0 (.v 2)), jn (.load false 1 (.r 0)), jn (.mk whf true 1 (.bool false) (.r 1)), js 5 (.mov (.r 2))])
  (.seq (jr [jn (.faddr 1 (.v 2)), jn (.load false 1 (.r 0)), jn (.len false (.r 1)), jn (.mk whf true 1 (.bool false) (.r 2)), js 6 (.mov (.r 3))])
  (.seq (jr [jn (.mov (.v 5)), jn (.mov (.v 1)), jn (.iaddr 1 (.r 0) (.r 1)), jn (.store 1 (.r 2) (.c (.bool true)))])
  (.seq (.seq (jr [js 7 (.mov (.c (.bool true)))])
  (.block 0 (.loop [false, false, true, false, false, true, true, true, false, false, false, false, false, false, false, false, false, false, false, false, false, false, false, false, false, false, false] (.seq (.seq (jr [js 13 (.mov (.v 7))])
  (.cond (.v 13) .skip (.exit 0)))
  (.block 1 (.seq (jr [js 7 (.mov (.c (.bool false)))])
  (.seq (jr [jn (.faddr 1 (.v 2)), js 14 (.load false 1 (.r 0)), js 15 (.len false (.v 14)), js 16 (.mov (jc 0))])
  (.block 2 (.loop [false, false, true, false, false, true, true, true, false, false, false, false, false, false, true, true, true, false, false, false, false, false, false, false, false, false, false] (.seq (jr [js 17 (.bin false .lss (.v 16) (.v 15))])
  (.seq (.cond (.v 17) .skip (.exit 2))
  (.seq (.block 3 (.seq (jr [jn (.mov (.v 16)), jn (.iaddr 3 (.v 14) (.v 16)), jn (.load true 3 (.r 1)), js 9 (.alloc whp [(.nil true 1), (.nil true 1), (.nil true 1)]), js 8 (.mov (.r 0)), jn (.store 3 (.v 9) (.r 2))])
  (.seq (jr [js 10 (.mov (.c (.bool false)))])
  (.seq (.seq (jr [jn (.faddr 1 (.v 9)), js 18 (.load false 1 (.r 0)), js 19 (.len false (.v 18)), js 20 (.mov (jc 0))])
  (.block 4 (.loop [false, false, true, false, false, true, true, true, true, true, true, false, false, false, true, true, true, false, true, true, true, false, false, false, false, false, false] (.seq (jr [js 21 (.bin false .lss (.v 20) (.v 19))])
  (.seq (.cond (.v 21) .skip (.exit 4))
  (.seq (.block 5 (.seq (jr [jn (.iaddr 1 (.v 18) (.v 20)), jn (.load false 1 (.r 0)), js 11 (.mov (.r 1))])
  (jr [jn (.mov (.v 10)), jn (.mov (.r 0)), jf 1 (.mov (.v 5)), jf 1 (.mov (.v 11)), jf 1 (.iaddr 1 (.r 2) (.r 3)), jf 1 (.load false 1 (.r 4)), jn (.pick (.r 1) (.c (.bool true)) (.r 5)), js 10 (.mov (.r 6))])))
  (jr [jn (.bin false .add (.v 20) (jc 1)), js 20 (.mov (.r 0))])))))))
  (.seq (.seq (jr [jn (.mov (.v 10)), jn (.not (.r 0)), jn (.mov (.r 1)), jf 2 (.mov (.v 6)), jf 2 (.mov (.v 8)), jf 2 (.iaddr 1 (.r 3) (.r 4)), jf 2 (.load false 1 (.r 5)), js 22 (.pick (.r 2) (.c (.bool true)) (.r 6))])
  (.cond (.v 22) (.exit 3) .skip))
  (.seq (jr [jn (.mov (.v 6)), jn (.mov (.v 8)), jn (.iaddr 1 (.r 0) (.r 1)), jn (.store 1 (.r 2) (.c (.bool true)))])
  (.seq (jr [js 7 (.mov (.c (.bool true)))])
  (.seq (jr [jn (.faddr 0 (.v 9)), js 23 (.load false 1 (.r 0)), js 24 (.len false (.v 23)), js 25 (.mov (jc 0))])
  (.block 6 (.loop [false, false, true, false, false, true, true, true, false, false, false, false, false, false, true, true, true, false, false, false, false, false, false, true, true, true, false] (.seq (jr [js 26 (.bin false .lss (.v 25) (.v 24))])
  (.seq (.cond (.v 26) .skip (.exit 6))
  (.seq (.block 7 (.seq (jr [jn (.iaddr 1 (.v 23) (.v 25)), jn (.load false 1 (.r 0)), js 12 (.mov (.r 1))])
  (jr [jn (.mov (.v 5)), jn (.mov (.v 12)), jn (.iaddr 1 (.r 0) (.r 1)), jn (.store 1 (.r 2) (.c (.bool true)))])))
  (jr [jn (.bin false .add (.v 25) (jc 1)), js 25 (.mov (.r 0))]))))))))))))))
  (jr [jn (.bin false .add (.v 16) (jc 1)), js 16 (.mov (.r 0))])))))))))))))
  (.seq (jr [jn (.mov (.v 5)), jn (.mov (.v 6)), js 3 (.mov (.r 0)), js 4 (.mov (.r 1))])
  .ret)))))),
  [.v 3, .v 4]⟩
def wff : IFun := ⟨[0, 1, 4, 5, 6, 8, 9, 10, 21],
  (.seq (jr [js 2 (.nilrow t_int true 1)])
  (.seq (jr [js 3 (.nilrow t_int true 1)])
  (.seq (.seq (jr [jn (.mov (.v 0)), js 5 (.len false (.r 0)), js 6 (.mov (jc 0))])
  (.block 0 (.loop [true, true, false, true, false, true, true, false, false] (.seq (jr [js 7 (.bin false .lss (.v 6) (.v 5))])
  (.seq (.cond (.v 7) .skip (.exit 0))
  (.seq (.block 1 (.seq (jr [jn (.mov (.v 6)), js 4 (.mov (.r 0))])
  (.seq (jr [jn (.mov (.v 0)), jn (.mov (.v 4)), jn (.iaddr 1 (.r 0) (.r 1)), jn (.load false 1 (.r 2)), jn (.mov (.r 3)), jt 4 (.mov (.v 1)), jt 4 (.mov (.v 4)), jt 4 (.iaddr 1 (.r 5) (.r 6)), jt 4 (.load false 1 (.r 7)), js 8 (.pick (.r 4) (.r 8) (.c (.bool false)))])
  (.cond (.v 8) (jr [jn (.mov (.v 3)), jn (.mov (.v 4)), jn (.bslice false t_int true 1 [(.r 1)]), jn (.append t_int true 1 (.r 0) (.r 2)), js 3 (.mov (.r 3))]) .skip))))
  (jr [jn (.bin false .add (.v 6) (jc 1)), js 6 (.mov (.r 0))])))))))
  (.seq (jr [jn (.mov (.v 3)), js 2 (.mov (.r 0))])
  .ret)))),
  [.v 2]⟩
def weh : IFun := ⟨[0, 1, 2, 3, 6, 7, 8, 9, 10, 11, 12, 31],
  (.seq (jr [js 3 (.box whk 2 (.v 0)), js 4 (.nilrow t_int true 1), js 5 (.nilrow t_int true 1), js 6 (.mov (.c (.bool false)))])
  (.seq (.seq (jr [jn (.load true 2 (.v 3)), jn (.call false w9c [(.r 0)]), jn (.not (.r 1)), jn (.mov (.r 2)), jf 3 (.mov (.v 1)), jf 3 (.faddr 0 (.v 3)), jf 3 (.load false 1 (.r 5)), jf 3 (.bin false .sub (.r 6) (jc 1)), jf 3 (.call false wa0 [(.r 4), (jc 0), (.r 7)]), jf 3 (.not (.r 8)), jn (.pick (.r 3) (.c (.bool true)) (.r 9)), jn (.mov (.r 10)), jf 11 (.mov (.v 2)), jf 11 (.faddr 0 (.v 3)), jf 11 (.load false 1 (.r 13)), jf 11 (.bin false .sub (.r 14) (jc 1)), jf 11 (.call false wa0 [(.r 12), (jc 0), (.r 15)]), jf 11 (.not (.r 16)), js 11 (.pick (.r 11) (.c (.bool true)) (.r 17))])
  (.cond (.v 11) (.seq (jr [js 4 (.nilrow t_int true 1), js 5 (.nilrow t_int true 1), js 6 (.mov (.c (.bool false)))])
  .ret) .skip))
  (.seq (jr [jn (.load true 2 (.v 3)), jn (.mov (.v 1)), jn (.call false wac [(.r 0), (.r 1)]), jn (.mov (.r 2)), jn (.extract (.r 3) 0), jn (.extract (.r 3) 1), js 7 (.mov (.r 4)), js 8 (.mov (.r 5))])
  (.seq (jr [jn (.load true 2 (.v 3)), jn (.mov (.v 2)), jn (.call false waa [(.r 0), (.r 1)]), jn (.mov (.r 2)), jn (.extract (.r 3) 0), jn (.extract (.r 3) 1), js 9 (.mov (.r 4)), js 10 (.mov (.r 5))])
  (.seq (jr [jn (.mov (.v 7)), jn (.mov (.v 9)), jn (.call false wab [(.r 0), (.r 1)]), jn (.mov (.v 8)), jn (.mov (.v 10)), jn (.call false wab [(.r 3), (.r 4)]), js 4 (.mov (.r 2)), js 5 (.mov (.r 5)), js 6 (.mov (.c (.bool true)))])
  .ret))))),
  [.v 4, .v 5, .v 6]⟩
def wec : IFun := ⟨[0, 1, 2, 3, 4, 5, 7, 44, 47, 48, 49, 50, 78],
  (.seq (jr [js 1 (.box whi 4 (.v 0)), js 2 (.mov (.c (.bool false)))])
  (.seq (jr [jn (.faddr 0 (.v 1)), jn (.load true 2 (.r 0)), jn (.faddr 2 (.v 1)), jn (.load false 1 (.r 2)), jn (.faddr 3 (.v 1)), jn (.load false 1 (.r 4)), jn (.call false w9f [(.r 1), (.r 3), (.r 5)]), jn (.mov (.r 6)), jn (.extract (.r 7) 0), jn (.extract (.r 7) 1), jn (.extract (.r 7) 2), js 3 (.mov (.r 8)), js 4 (.mov (.r 9)), js 5 (.mov (.r 10))])
  (.seq (.seq (jr [jn (.mov (.v 5)), jn (.not (.r 0)), jn (.mov (.r 1)), jf 2 (.faddr 2 (.v 1)), jf 2 (.load false 1 (.r 3)), jf 2 (.faddr 3 (.v 1)), jf 2 (.load false 1 (.r 5)), jf 2 (.bin false .eql (.r 4) (.r 6)), jn (.pick (.r 2) (.c (.bool true)) (.r 7)), jn (.mov (.r 8)), jf 9 (.mov (.v 3)), jf 9 (.len false (.r 10)), jf 9 (.faddr 0 (.v 1)), jf 9 (.faddr 0 (.r 12)), jf 9 (.load false 1 (.r 13)), jf 9 (.bin false .neq (.r 11) (.r 14)), jn (.pick (.r 9) (.c (.bool true)) (.r 15)), jn (.mov (.r 16)), jf 17 (.mov (.v 4)), jf 17 (.len false (.r 18)), jf 17 (.faddr 0 (.v 1)), jf 17 (.faddr 1 (.r 20)), jf 17 (.load false 1 (.r 21)), jf 17 (.len false (.r 22)), jf 17 (.bin false .neq (.r 19) (.r 23)), js 7 (.pick (.r 17) (.c (.bool true)) (.r 24))])
  (.cond (.v 7) (.seq (jr [js 2 (.mov (.c (.bool false)))])
  .ret) .skip))
  (.seq (.seq (jr [jn (.faddr 0 (.v 1)), jn (.faddr 1 (.r 0)), js 8 (.load false 1 (.r 1)), js 9 (.len false (.v 8)), js 10 (.mov (jc 0))])
  (.block 0 (.loop [false, true, false, false, false, false, false, false, true, true, true, false, false] (.seq (jr [js 11 (.bin false .lss (.v 10) (.v 9))])
  (.seq (.cond (.v 11) .skip (.exit 0))
  (.seq (.block 1 (.seq (jr [jn (.iaddr 3 (.v 8) (.v 10)), jn (.load true 3 (.r 0)), js 6 (.alloc whp [(.nil true 1), (.nil true 1), (.nil true 1)]), jn (.store 3 (.v 6) (.r 1))])
  (.seq (jr [jn (.faddr 1 (.v 6)), jn (.load false 1 (.r 0)), jn (.faddr 2 (.v 1)), jn (.load false 1 (.r 2)), jn (.call false w9z [(.r 1), (.r 3)]), jn (.mov (.r 4)), jf 5 (.faddr 0 (.v 6)), jf 5 (.load false 1 (.r 6)), jf 5 (.faddr 3 (.v 1)), jf 5 (.load false 1 (.r 8)), jf 5 (.call false w9z [(.r 7), (.r 9)]), jn (.pick (.r 5) (.c (.bool true)) (.r 10)), jn (.mov (.r 11)), jf 12 (.faddr 2 (.v 6)), jf 12 (.load false 1 (.r 13)), jf 12 (.faddr 2 (.v 1)), jf 12 (.load false 1 (.r 15)), jf 12 (.call false w9z [(.r 14), (.r 16)]), jn (.pick (.r 12) (.c (.bool true)) (.r 17)), jn (.mov (.r 18)), jf 19 (.faddr 2 (.v 6)), jf 19 (.load false 1 (.r 20)), jf 19 (.faddr 3 (.v 1)), jf 19 (.load false 1 (.r 22)), jf 19 (.call false w9z [(.r 21), (.r 23)]), js 12 (.pick (.r 19) (.c (.bool true)) (.r 24))])
  (.cond (.v 12) (.seq (jr [js 2 (.mov (.c (.bool false)))])
  .ret) .skip))))
  (jr [jn (.bin false .add (.v 10) (jc 1)), js 10 (.mov (.r 0))])))))))
  (.seq (jr [js 2 (.mov (.c (.bool true)))])
  .ret))))),
  [.v 2]⟩
def wef : IFun := ⟨[0, 1, 2, 3, 4, 16, 19, 20, 21, 26],
  (.seq (jr [js 1 (.box whm 2 (.v 0)), js 2 (.mov (.c (.bool false)))])
  (.seq (.seq (jr [jn (.faddr 0 (.v 1)), jn (.load false 1 (.r 0)), jn (.call false wa0 [(.r 1), (jc 2), (jc 8)]), jn (.not (.r 2)), jn (.mov (.r 3)), jf 4 (.faddr 1 (.v 1)), jf 4 (.load false 1 (.r 5)), jf 4 (.len false (.r 6)), jf 4 (.call false wa0 [(.r 7), (jc 1), (jc 6)]), jf 4 (.not (.r 8)), js 5 (.pick (.r 4) (.c (.bool true)) (.r 9))])
  (.cond (.v 5) (.seq (jr [js 2 (.mov (.c (.bool false)))])
  .ret) .skip))
  (.seq (.seq (jr [jn (.faddr 1 (.v 1)), jn (.load false 1 (.r 0)), js 6 (.len false (.r 1)), js 7 (.mov (jc 0))])
  (.block 0 (.loop [false, true, false, false, false, false, true, true, false, false] (.seq (jr [js 8 (.bin false .lss (.v 7) (.v 6))])
  (.seq (.cond (.v 8) .skip (.exit 0))
  (.seq (.block 1 (.seq (jr [jn (.mov (.v 7)), js 3 (.mov (.r 0))])
  (.seq (jr [jn (.load true 2 (.v 1)), jn (.mov (.v 3)), jn (.call false w9l [(.r 0), (.r 1)]), js 9 (.not (.r 2))])
  (.cond (.v 9) (.seq (jr [js 2 (.mov (.c (.bool false)))])
  .ret) .skip))))
  (jr [jn (.bin false .add (.v 7) (jc 1)), js 7 (.mov (.r 0))])))))))
  (.seq (jr [jn (.load true 2 (.v 1)), jn (.call false w9h [(.r 0)]), jn (.mov (.r 1)), jn (.extract (.r 2) 0), jn (.extract (.r 2) 1), js 4 (.alloc whi [(.int .i64 0), (.nil false 3), (.int .i64 0), (.int .i64 0)]), jn (.store 4 (.v 4) (.r 3)), jn (.mov (.r 4))])
  (.seq (jr [jn (.load true 4 (.v 4)), jn (.call false w9a [(.r 0)]), js 2 (.mov (.r 1))])
  .ret))))),
  [.v 2]⟩
def wfh : IFun := ⟨[0, 1, 4, 5],
  (.seq (jr [js 2 (.nilrow t_int true 1)])
  (.seq (jr [jn (.mov (.v 0)), jn (.mk t_int true 1 (.int .i64 0) (.r 0)), js 3 (.mov (.r 1))])
  (.seq (jr [jn (.mov (.v 3)), jn (.mov (.v 1)), jn (.iaddr 1 (.r 0) (.r 1)), jn (.store 1 (.r 2) (jc 1))])
  (.seq (jr [jn (.mov (.v 3)), js 2 (.mov (.r 0))])
  .ret)))),
  [.v 2]⟩
def weg : IFun := ⟨[0, 1, 2, 3, 6],
  (.seq (jr [js 1 (.box whm 2 (.v 0)), js 2 (.alloc whh [(.int .i64 0), (.nil true 1)]), js 3 (.mov (.c (.bool false)))])
  (.seq (.seq (jr [jn (.load true 2 (.v 1)), jn (.call false w9d [(.r 0)]), js 4 (.not (.r 1))])
  (.cond (.v 4) (.seq (jr [jn (.build [(.int .i64 0), (.nil true 1)] []), jn (.store 2 (.v 2) (.r 0)), js 3 (.mov (.c (.bool false)))])
  .ret) .skip))
  (.seq (jr [jn (.faddr 0 (.v 1)), jn (.load false 1 (.r 0)), jn (.faddr 1 (.v 1)), jn (.load false 1 (.r 2)), jn (.len false (.r 3)), jn (.bin false .add (.r 1) (.r 4)), jn (.call false wad [(.r 5), (jc 0)]), jn (.build [(.int .i64 0), (.nil true 1)] [(0, 1, (jc 1)), (1, 1, (.r 6))]), jn (.store 2 (.v 2) (.r 7)), js 3 (.mov (.c (.bool true)))])
  .ret))),
  [.cell true 2 2, .v 3]⟩
def wfa : IFun := ⟨[0, 1, 2, 4, 6, 8, 9, 10, 11, 18],
  (.seq (jr [js 2 (.box whp 3 (.v 0)), js 3 (.mov (.c (.bool false)))])
  (.seq (.seq (jr [jn (.faddr 0 (.v 2)), js 5 (.load false 1 (.r 0)), js 6 (.len false (.v 5)), js 7 (.mov (jc 0))])
  (.block 0 (.loop [false, true, false, false, false, true, true, true, false, false] (.seq (jr [js 8 (.bin false .lss (.v 7) (.v 6))])
  (.seq (.cond (.v 8) .skip (.exit 0))
  (.seq (.block 1 (.seq (jr [jn (.iaddr 1 (.v 5) (.v 7)), jn (.load false 1 (.r 0)), js 4 (.mov (.r 1))])
  (.seq (jr [jn (.mov (.v 1)), jn (.mov (.v 4)), jn (.iaddr 1 (.r 0) (.r 1)), jn (.load false 1 (.r 2)), js 9 (.bin false .eql (.r 3) (jc 0))])
  (.cond (.v 9) (.seq (jr [js 3 (.mov (.c (.bool false)))])
  .ret) .skip))))
  (jr [jn (.bin false .add (.v 7) (jc 1)), js 7 (.mov (.r 0))])))))))
  (.seq (jr [js 3 (.mov (.c (.bool true)))])
  .ret))),
  [.v 3]⟩
def wfb : IFun := ⟨[0, 1, 2, 4, 5, 6, 7, 9, 10, 11, 12, 18],
  (.seq (jr [js 2 (.box whk 2 (.v 0)), js 3 (.nilrow t_int true 1)])
  (.seq (jr [js 4 (.nilrow t_int true 1)])
  (.seq (.seq (jr [jn (.faddr 1 (.v 2)), js 7 (.load false 1 (.r 0)), js 8 (.len false (.v 7)), js 9 (.mov (jc 0))])
  (.block 0 (.loop [false, true, false, false, true, false, false, true, true, true, false, false] (.seq (jr [js 10 (.bin false .lss (.v 9) (.v 8))])
  (.seq (.cond (.v 10) .skip (.exit 0))
  (.seq (.block 1 (.seq (jr [jn (.mov (.v 9)), jn (.iaddr 3 (.v 7) (.v 9)), jn (.load true 3 (.r 1)), js 6 (.alloc whp [(.nil true 1), (.nil true 1), (.nil true 1)]), js 5 (.mov (.r 0)), jn (.store 3 (.v 6) (.r 2))])
  (.seq (jr [jn (.load true 3 (.v 6)), jn (.mov (.v 1)), js 11 (.call false wa6 [(.r 0), (.r 1)])])
  (.cond (.v 11) (jr [jn (.mov (.v 4)), jn (.mov (.v 5)), jn (.bslice false t_int true 1 [(.r 1)]), jn (.append t_int true 1 (.r 0) (.r 2)), js 4 (.mov (.r 3))]) .skip))))
  (jr [jn (.bin false .add (.v 9) (jc 1)), js 9 (.mov (.r 0))])))))))
  (.seq (jr [jn (.mov (.v 4)), js 3 (.mov (.r 0))])
  .ret)))),
  [.v 3]⟩
def weo : IFun := ⟨[0, 1, 2, 3, 4, 5, 6, 7, 9, 12, 22, 23, 24, 25],
  (.seq (jr [js 2 (.box whm 2 (.v 0)), js 3 (.box whh 2 (.v 1)), js 4 (.nilrow whj true 3)])
  (.seq (.seq (jr [jn (.faddr 0 (.v 3)), jn (.load false 1 (.r 0)), js 9 (.bin false .neq (.r 1) (jc 1))])
  (.cond (.v 9) (.seq (jr [js 4 (.nilrow whj true 3)])
  .ret) .skip))
  (.seq (jr [jn (.load true 2 (.v 2)), jn (.call false w9h [(.r 0)]), jn (.mov (.r 1)), jn (.extract (.r 2) 0), jn (.extract (.r 2) 1), js 5 (.alloc whi [(.int .i64 0), (.nil false 3), (.int .i64 0), (.int .i64 0)]), jn (.store 4 (.v 5) (.r 3)), js 6 (.mov (.r 4))])
  (.seq (jr [js 7 (.nilrow whj true 3)])
  (.seq (.seq (jr [jn (.faddr 0 (.v 5)), jn (.load true 2 (.r 0)), jn (.faddr 1 (.v 3)), jn (.load false 1 (.r 2)), js 10 (.call false wa7 [(.r 1), (.r 3)]), js 11 (.len false (.v 10)), js 12 (.mov (jc 0))])
  (.block 0 (.loop [false, false, false, false, false, false, true, true, false, false, true, true, true, false] (.seq (jr [js 13 (.bin false .lss (.v 12) (.v 11))])
  (.seq (.cond (.v 13) .skip (.exit 0))
  (.seq (.block 1 (.seq (jr [jn (.iaddr 1 (.v 10) (.v 12)), jn (.load false 1 (.r 0)), js 8 (.mov (.r 1))])
  (jr [jn (.mov (.v 7)), jn (.mov (.v 6)), jn (.mov (.v 8)), jn (.iaddr 3 (.r 1) (.r 2)), jn (.load true 3 (.r 3)), jn (.bslice false whj true 3 [(.r 4)]), jn (.append whj true 3 (.r 0) (.r 5)), js 7 (.mov (.r 6))])))
  (jr [jn (.bin false .add (.v 12) (jc 1)), js 12 (.mov (.r 0))])))))))
  (.seq (jr [jn (.mov (.v 7)), js 4 (.mov (.r 0))])
  .ret)))))),
  [.v 4]⟩
def wek : IFun := ⟨[0, 1, 2, 3, 4, 6, 7, 8, 14, 15, 16, 17, 23],
  (.seq (jr [js 2 (.box whm 2 (.v 0)), js 3 (.box whj 3 (.v 1)), js 4 (.mov (jc 0))])
  (.seq (jr [jn (.load true 2 (.v 2)), jn (.call false w9h [(.r 0)]), jn (.mov (.r 1)), jn (.extract (.r 2) 0), jn (.extract (.r 2) 1), jn (.alloc whi [(.int .i64 0), (.nil false 3), (.int .i64 0), (.int .i64 0)]), jn (.store 4 (.r 5) (.r 3)), js 5 (.mov (.r 4))])
  (.seq (.seq (jr [js 8 (.mov (.v 5)), js 9 (.len false (.v 8)), js 10 (.mov (jc 0))])
  (.block 0 (.loop [false, false, false, true, false, false, false, false, true, true, true, false, false] (.seq (jr [js 11 (.bin false .lss (.v 10) (.v 9))])
  (.seq (.cond (.v 11) .skip (.exit 0))
  (.seq (.block 1 (.seq (jr [jn (.mov (.v 10)), jn (.iaddr 3 (.v 8) (.v 10)), jn (.load true 3 (.r 1)), js 7 (.alloc whj [(.int .i64 0), (.bool false), (.int .i64 0)]), js 6 (.mov (.r 0)), jn (.store 3 (.v 7) (.r 2))])
  (.seq (jr [jn (.load true 3 (.v 7)), jn (.load true 3 (.v 3)), js 12 (.eqs false [0, 1, 0] (.r 0) (.r 1))])
  (.cond (.v 12) (.seq (jr [jn (.mov (.v 6)), js 4 (.mov (.r 0))])
  .ret) .skip))))
  (jr [jn (.bin false .add (.v 10) (jc 1)), js 10 (.mov (.r 0))])))))))
  (.seq (jr [js 4 (.mov (jc (-1)))])
  .ret)))),
  [.v 4]⟩
def wer : IFun := ⟨[0, 1, 2, 6, 8, 9, 10, 11, 12, 19],
  (.seq (jr [js 3 (.mov (.c (.bool false)))])
  (.seq (.seq (jr [js 5 (.mov (.v 0)), js 6 (.len false (.v 5)), js 7 (.mov (jc 0))])
  (.block 0 (.loop [false, true, true, false, false, true, true, true, false, false] (.seq (jr [js 8 (.bin false .lss (.v 7) (.v 6))])
  (.seq (.cond (.v 8) .skip (.exit 0))
  (.seq (.block 1 (.seq (jr [jn (.iaddr 1 (.v 5) (.v 7)), jn (.load false 1 (.r 0)), js 4 (.mov (.r 1))])
  (.seq (jr [jn (.mov (.v 4)), jn (.mov (.v 1)), jn (.mov (.v 2)), jn (.call false wa0 [(.r 0), (.r 1), (.r 2)]), js 9 (.not (.r 3))])
  (.cond (.v 9) (.seq (jr [js 3 (.mov (.c (.bool false)))])
  .ret) .skip))))
  (jr [jn (.bin false .add (.v 7) (jc 1)), js 7 (.mov (.r 0))])))))))
  (.seq (jr [js 3 (.mov (.c (.bool true)))])
  .ret))),
  [.v 3]⟩
def wed : IFun := ⟨[0, 1, 4],
  (.seq (jr [js 2 (.mov (.c (.bool false)))])
  (.seq (jr [jn (.mov (.v 0)), jn (.call false wa2 [(.r 0)]), jn (.mov (.r 1)), jt 2 (.mov (.v 1)), jt 2 (.len false (.r 3)), jt 2 (.mov (.v 0)), jt 2 (.bin false .eql (.r 4) (.r 5)), jn (.pick (.r 2) (.r 6) (.c (.bool false))), jn (.mov (.r 7)), jt 8 (.mov (.v 1)), jt 8 (.call false w9p [(.r 9), (jc 0), (jc 50)]), jn (.pick (.r 8) (.r 10) (.c (.bool false))), js 2 (.mov (.r 11))])
  .ret)),
  [.v 2]⟩
def wfd : IFun := ⟨[0, 1, 2, 4],
  (.seq (jr [js 2 (.box whk 2 (.v 0)), js 3 (.mov (.c (.bool false)))])
  (.seq (jr [jn (.load true 2 (.v 2)), jn (.call false w9c [(.r 0)]), jn (.mov (.r 1)), jt 2 (.faddr 0 (.v 2)), jt 2 (.load false 1 (.r 3)), jt 2 (.mov (.v 1)), jt 2 (.call false w9b [(.r 4), (.r 5)]), jn (.pick (.r 2) (.r 6) (.c (.bool false))), js 3 (.mov (.r 7))])
  .ret)),
  [.v 3]⟩
def wfc : IFun := ⟨[0, 1, 2, 4, 5, 7, 9, 11, 15, 16, 17, 18, 29, 30, 31, 32, 40, 41, 42, 43],
  (.seq (jr [js 2 (.box whp 3 (.v 0)), js 3 (.nilrow t_int true 1)])
  (.seq (jr [jn (.mov (.v 1)), jn (.call false wa1 [(.r 0)]), js 4 (.mov (.r 1))])
  (.seq (.seq (jr [jn (.faddr 0 (.v 2)), js 8 (.load false 1 (.r 0)), js 9 (.len false (.v 8)), js 10 (.mov (jc 0))])
  (.block 0 (.loop [false, false, true, false, true, false, false, false, true, true, true, false, false, false, false, false, false, false, false, false] (.seq (jr [js 11 (.bin false .lss (.v 10) (.v 9))])
  (.seq (.cond (.v 11) .skip (.exit 0))
  (.seq (.block 1 (.seq (jr [jn (.iaddr 1 (.v 8) (.v 10)), jn (.load false 1 (.r 0)), js 5 (.mov (.r 1))])
  (jr [jn (.mov (.v 4)), jn (.mov (.v 5)), jn (.iaddr 1 (.r 0) (.r 1)), jn (.load false 1 (.r 2)), jn (.bin false .sub (.r 3) (jc 1)), jn (.iaddr 1 (.r 0) (.r 1)), jn (.store 1 (.r 5) (.r 4))])))
  (jr [jn (.bin false .add (.v 10) (jc 1)), js 10 (.mov (.r 0))])))))))
  (.seq (.seq (jr [jn (.faddr 2 (.v 2)), js 12 (.load false 1 (.r 0)), js 13 (.len false (.v 12)), js 14 (.mov (jc 0))])
  (.block 2 (.loop [false, false, true, false, true, false, false, false, false, false, false, false, true, true, true, false, false, false, false, false] (.seq (jr [js 15 (.bin false .lss (.v 14) (.v 13))])
  (.seq (.cond (.v 15) .skip (.exit 2))
  (.seq (.block 3 (.seq (jr [jn (.iaddr 1 (.v 12) (.v 14)), jn (.load false 1 (.r 0)), js 6 (.mov (.r 1))])
  (jr [jn (.mov (.v 4)), jn (.mov (.v 6)), jn (.iaddr 1 (.r 0) (.r 1)), jn (.store 1 (.r 2) (jc 0))])))
  (jr [jn (.bin false .add (.v 14) (jc 1)), js 14 (.mov (.r 0))])))))))
  (.seq (.seq (jr [jn (.faddr 1 (.v 2)), js 16 (.load false 1 (.r 0)), js 17 (.len false (.v 16)), js 18 (.mov (jc 0))])
  (.block 4 (.loop [false, false, false, false, true, false, false, false, false, false, false, false, false, false, false, false, true, true, true, false] (.seq (jr [js 19 (.bin false .lss (.v 18) (.v 17))])
  (.seq (.cond (.v 19) .skip (.exit 4))
  (.seq (.block 5 (.seq (jr [jn (.iaddr 1 (.v 16) (.v 18)), jn (.load false 1 (.r 0)), js 7 (.mov (.r 1))])
  (jr [jn (.mov (.v 4)), jn (.mov (.v 7)), jn (.iaddr 1 (.r 0) (.r 1)), jn (.load false 1 (.r 2)), jn (.bin false .add (.r 3) (jc 1)), jn (.iaddr 1 (.r 0) (.r 1)), jn (.store 1 (.r 5) (.r 4))])))
  (jr [jn (.bin false .add (.v 18) (jc 1)), js 18 (.mov (.r 0))])))))))
  (.seq (jr [jn (.mov (.v 4)), js 3 (.mov (.r 0))])
  .ret)))))),
  [.v 3]⟩
def web : IFun := ⟨[0, 1, 2, 3, 6, 7, 8, 31, 43],
  (.seq (jr [js 3 (.box whk 2 (.v 0)), js 4 (.nilrow t_int true 1), js 5 (.mov (.c (.bool false)))])
  (.seq (.seq (jr [jn (.load true 2 (.v 3)), jn (.mov (.v 1)), jn (.call false wa9 [(.r 0), (.r 1)]), jn (.not (.r 2)), jn (.mov (.r 3)), jf 4 (.mov (.v 2)), jf 4 (.faddr 1 (.v 3)), jf 4 (.load false 1 (.r 6)), jf 4 (.len false (.r 7)), jf 4 (.bin false .sub (.r 8) (jc 1)), jf 4 (.call false wa0 [(.r 5), (jc 0), (.r 9)]), jf 4 (.not (.r 10)), jn (.pick (.r 4) (.c (.bool true)) (.r 11)), jn (.mov (.r 12)), jf 13 (.faddr 1 (.v 3)), jf 13 (.load false 1 (.r 14)), jf 13 (.mov (.v 2)), jf 13 (.iaddr 3 (.r 15) (.r 16)), jf 13 (.load true 3 (.r 17)), jf 13 (.mov (.v 1)), jf 13 (.call false wa6 [(.r 18), (.r 19)]), jf 13 (.not (.r 20)), js 7 (.pick (.r 13) (.c (.bool true)) (.r 21))])
  (.cond (.v 7) (.seq (jr [js 4 (.nilrow t_int true 1), js 5 (.mov (.c (.bool false)))])
  .ret) .skip))
  (.seq (jr [jn (.faddr 1 (.v 3)), jn (.load false 1 (.r 0)), jn (.mov (.v 2)), jn (.iaddr 3 (.r 1) (.r 2)), jn (.load true 3 (.r 3)), jn (.mov (.v 1)), jn (.call false wa8 [(.r 4), (.r 5)]), js 6 (.mov (.r 6))])
  (.seq (.seq (jr [jn (.faddr 0 (.v 3)), jn (.load false 1 (.r 0)), jn (.mov (.v 6)), jn (.call false w9b [(.r 1), (.r 2)]), js 8 (.not (.r 3))])
  (.cond (.v 8) (.seq (jr [js 4 (.nilrow t_int true 1), js 5 (.mov (.c (.bool false)))])
  .ret) .skip))
  (.seq (jr [jn (.mov (.v 6)), js 4 (.mov (.r 0)), js 5 (.mov (.c (.bool true)))])
  .ret))))),
  [.v 4, .v 5]⟩
def weq : IFun := ⟨[0, 1, 2, 3, 4, 5, 6, 7, 8, 9, 11, 12, 13, 23, 40, 47],
  (.seq (jr [js 3 (.box whm 2 (.v 0)), js 4 (.box whh 2 (.v 1)), js 5 (.box whj 3 (.v 2)), js 6 (.alloc whh [(.int .i64 0), (.nil true 1)]), js 7 (.mov (.c (.bool false)))])
  (.seq (jr [jn (.load true 2 (.v 3)), jn (.load true 3 (.v 5)), jn (.call false w9i [(.r 0), (.r 1)]), js 8 (.mov (.r 2))])
  (.seq (.seq (jr [jn (.faddr 0 (.v 4)), jn (.load false 1 (.r 0)), jn (.bin false .neq (.r 1) (jc 1)), jn (.mov (.r 2)), jf 3 (.mov (.v 8)), jf 3 (.bin false .lss (.r 4) (jc 0)), js 13 (.pick (.r 3) (.c (.bool true)) (.r 5))])
  (.cond (.v 13) (.seq (jr [jn (.build [(.int .i64 0), (.nil true 1)] []), jn (.store 2 (.v 6) (.r 0)), js 7 (.mov (.c (.bool false)))])
  .ret) .skip))
  (.seq (jr [jn (.load true 2 (.v 3)), jn (.call false w9h [(.r 0)]), jn (.mov (.r 1)), jn (.extract (.r 2) 0), jn (.extract (.r 2) 1), js 9 (.alloc whi [(.int .i64 0), (.nil false 3), (.int .i64 0), (.int .i64 0)]), jn (.store 4 (.v 9) (.r 3)), jn (.mov (.r 4))])
  (.seq (jr [jn (.faddr 0 (.v 9)), jn (.load true 2 (.r 0)), jn (.faddr 1 (.v 4)), jn (.load false 1 (.r 2)), jn (.mov (.v 8)), jn (.call false w99 [(.r 1), (.r 3), (.r 4)]), jn (.mov (.r 5)), jn (.extract (.r 6) 0), jn (.extract (.r 6) 1), js 10 (.mov (.r 7)), js 11 (.mov (.r 8))])
  (.seq (.seq (jr [jn (.mov (.v 11)), js 14 (.not (.r 0))])
  (.cond (.v 14) (.seq (jr [jn (.build [(.int .i64 0), (.nil true 1)] []), jn (.store 2 (.v 6) (.r 0)), js 7 (.mov (.c (.bool false)))])
  .ret) .skip))
  (.seq (jr [jn (.mov (.v 10)), jn (.build [(.int .i64 0), (.nil true 1)] [(0, 1, (jc 1)), (1, 1, (.r 0))]), js 12 (.alloc whh [(.int .i64 0), (.nil true 1)]), jn (.store 2 (.v 12) (.r 1))])
  (.seq (.seq (jr [jn (.mov (.v 10)), jn (.iaddr 1 (.r 0) (jc 1)), jn (.load false 1 (.r 1)), js 15 (.bin false .gtr (.r 2) (jc 0))])
  (.cond (.v 15) (jr [jn (.faddr 0 (.v 12)), jn (.store 1 (.r 0) (jc 2))]) .skip))
  (.seq (jr [jn (.load true 2 (.v 12)), jn (.store 2 (.v 6) (.r 0)), js 7 (.mov (.c (.bool true)))])
  .ret))))))))),
  [.cell true 2 6, .v 7]⟩
def wet : IFun := ⟨[0, 1, 3, 4, 5, 6, 7, 8, 9, 10, 11, 12, 19, 23, 28, 51, 66],
  (.seq (jr [js 2 (.box whm 2 (.v 1)), js 3 (.nilrow whj true 3)])
  (.seq (jr [jn (.load true 2 (.v 2)), jn (.call false w9e [(.r 0)]), jn (.mov (.r 1)), jn (.extract (.r 2) 0), jn (.extract (.r 2) 1), js 4 (.alloc whh [(.int .i64 0), (.nil true 1)]), jn (.store 2 (.v 4) (.r 3)), js 5 (.mov (.r 4))])
  (.seq (.seq (jr [jn (.mov (.v 5)), js 12 (.not (.r 0))])
  (.cond (.v 12) (.seq (jr [js 3 (.nilrow whj true 3)])
  .ret) .skip))
  (.seq (jr [js 6 (.nilrow whj true 3)])
  (.seq (jr [jn (.mov (.v 0)), jn (.callm w9u [(.r 0), (jc 12)]), js 7 (.mov (.r 1))])
  (.seq (.seq (jr [jn (.mov (.v 0)), js 13 (.callm w9t [(.r 0), (jc 30)])])
  (.cond (.v 13) (jr [jn (.mov (.v 0)), jn (.callm w9u [(.r 0), (jc 2)]), jn (.bin false .add (jc 60) (.r 1)), js 7 (.mov (.r 2))]) .skip))
  (.seq (.block 0 (.loop [true, false, true, false, true, false, true, true, false, false, false, false, false, false, false, false, false] (.seq (.seq (jr [jn (.mov (.v 7)), js 14 (.bin false .gtr (.r 0) (jc 0))])
  (.cond (.v 14) .skip (.exit 0)))
  (.seq (.block 1 (.seq (jr [jn (.mov (.v 0)), jn (.faddr 1 (.v 2)), jn (.load false 1 (.r 1)), jn (.len false (.r 2)), jn (.callm w9u [(.r 0), (.r 3)]), jn (.mov (.v 0)), jn (.callm w9t [(.r 5), (jc 2)]), jn (.mov (.v 0)), jn (.callm w9u [(.r 7), (jc 2)]), jn (.build [(.int .i64 0), (.bool false), (.int .i64 0)] [(0, 1, (.r 4)), (1, 1, (.r 6)), (2, 1, (.r 8))]), js 8 (.alloc whj [(.int .i64 0), (.bool false), (.int .i64 0)]), jn (.store 3 (.v 8) (.r 9))])
  (.seq (.seq (jr [jn (.load true 2 (.v 2)), jn (.load true 2 (.v 4)), jn (.call false w9m [(.r 0), (.r 1)]), js 9 (.mov (.r 2))])
  (.seq (jr [jn (.mov (.v 9)), jn (.len false (.r 0)), jn (.bin false .gtr (.r 1) (jc 0)), jn (.mov (.r 2)), jt 3 (.mov (.v 0)), jt 3 (.callm w9t [(.r 4), (jc 12)]), jt 3 (.not (.r 5)), js 15 (.pick (.r 3) (.r 6) (.c (.bool false)))])
  (.cond (.v 15) (jr [jn (.mov (.v 9)), jn (.mov (.v 0)), jn (.mov (.v 9)), jn (.len false (.r 2)), jn (.callm w9u [(.r 1), (.r 3)]), jn (.iaddr 3 (.r 0) (.r 4)), jn (.load true 3 (.r 5)), jn (.store 3 (.v 8) (.r 6))]) .skip)))
  (.seq (.seq (jr [jn (.load true 2 (.v 2)), jn (.load true 2 (.v 4)), jn (.load true 3 (.v 8)), jn (.call false w9o [(.r 0), (.r 1), (.r 2)]), jn (.mov (.r 3)), jn (.extract (.r 4) 0), jn (.extract (.r 4) 1), js 10 (.alloc whh [(.int .i64 0), (.nil true 1)]), jn (.store 2 (.v 10) (.r 5)), js 11 (.mov (.r 6))])
  (.seq (jr [js 16 (.mov (.v 11))])
  (.cond (.v 16) (jr [jn (.load true 2 (.v 10)), jn (.store 2 (.v 4) (.r 0))]) .skip)))
  (jr [jn (.mov (.v 6)), jn (.load true 3 (.v 8)), jn (.bslice false whj true 3 [(.r 1)]), jn (.append whj true 3 (.r 0) (.r 2)), js 6 (.mov (.r 3))])))))
  (jr [jn (.mov (.v 7)), jn (.bin false .sub (.r 0) (jc 1)), js 7 (.mov (.r 1))])))))
  (.seq (jr [jn (.mov (.v 6)), js 3 (.mov (.r 0))])
  .ret)))))))),
  [.v 3]⟩
def wea : IFun := ⟨[0, 2, 3, 4, 5],
  (.seq (jr [js 1 (.alloc whm [(.int .i64 0), (.nil false 7)]), js 2 (.nilrow whj true 3)])
  (.seq (jr [jn (.mov (.v 0)), jn (.build [(.nil true 1), (.int .i64 0), (.int .u64 0)] [(0, 1, (.r 0))]), jn (.box wht 3 (.r 1)), js 3 (.mov (.r 2))])
  (.seq (jr [jn (.mov (.v 3)), jn (.callm w9x [(.r 0)]), js 4 (.alloc whm [(.int .i64 0), (.nil false 7)]), jn (.store 2 (.v 4) (.r 1))])
  (.seq (.region true [(3, 0)] [jn (.load true 2 (.v 4)), jn (.mov (.v 3)), jn (.load true 2 (.v 4)), jn (.callm w9r [(.r 1), (.r 2)]), jn (.store 2 (.v 1) (.r 0)), js 2 (.mov (.r 3))])
  .ret)))),
  [.cell true 2 1, .v 2]⟩
def wdl : IFun := ⟨[0, 1, 2, 6],
  (.seq (jr [js 3 (.mov (.c (.bool false)))])
  (.seq (jr [jn (.mov (.v 0)), jn (.mov (.v 1)), jn (.bin false .geq (.r 0) (.r 1)), jn (.mov (.r 2)), jt 3 (.mov (.v 0)), jt 3 (.mov (.v 2)), jt 3 (.bin false .leq (.r 4) (.r 5)), jn (.pick (.r 3) (.r 6) (.c (.bool false))), js 3 (.mov (.r 7))])
  .ret)),
  [.v 3]⟩
def wcz : IFun := ⟨[0, 2, 3, 7, 19],
  (.seq (jr [js 1 (.mov (.c (.bool false)))])
  (.seq (.seq (jr [js 2 (.mov (jc 1))])
  (.block 0 (.loop [true, false, true, false, false] (.seq (.seq (jr [jn (.mov (.v 2)), jn (.mov (.v 0)), jn (.len false (.r 1)), js 3 (.bin false .lss (.r 0) (.r 2))])
  (.cond (.v 3) .skip (.exit 0)))
  (.seq (.block 1 (.seq (.region true [] [jn (.mov (.v 0)), jn (.mov (.v 2)), jn (.bin false .sub (.r 1) (jc 1)), jn (.iaddr 1 (.r 0) (.r 2)), jn (.load false 1 (.r 3)), jn (.mov (.v 0)), jn (.mov (.v 2)), jn (.iaddr 1 (.r 5) (.r 6)), jn (.load false 1 (.r 7)), js 4 (.bin false .geq (.r 4) (.r 8))])
  (.cond (.v 4) (.seq (jr [js 1 (.mov (.c (.bool false)))])
  .ret) .skip)))
  (jr [jn (.mov (.v 2)), jn (.bin false .add (.r 0) (jc 1)), js 2 (.mov (.r 1))]))))))
  (.seq (jr [js 1 (.mov (.c (.bool true)))])
  .ret))),
  [.v 1]⟩
def wcl : IFun := ⟨[0, 1, 2, 6, 8, 9, 10, 11, 12, 19],
  (.seq (jr [js 3 (.mov (.c (.bool false)))])
  (.seq (.seq (jr [js 5 (.mov (.v 0)), js 6 (.len false (.v 5)), js 7 (.mov (jc 0))])
  (.block 0 (.loop [false, true, true, false, false, true, true, true, false, false] (.seq (jr [js 8 (.bin false .lss (.v 7) (.v 6))])
  (.seq (.cond (.v 8) .skip (.exit 0))
  (.seq (.block 1 (.seq (jr [jn (.iaddr 1 (.v 5) (.v 7)), jn (.load false 1 (.r 0)), js 4 (.mov (.r 1))])
  (.seq (jr [jn (.mov (.v 4)), jn (.mov (.v 1)), jn (.mov (.v 2)), jn (.call false w8i [(.r 0), (.r 1), (.r 2)]), js 9 (.not (.r 3))])
  (.cond (.v 9) (.seq (jr [js 3 (.mov (.c (.bool false)))])
  .ret) .skip))))
  (jr [jn (.bin false .add (.v 7) (jc 1)), js 7 (.mov (.r 0))])))))))
  (.seq (jr [js 3 (.mov (.c (.bool true)))])
  .ret))),
  [.v 3]⟩
def wcm : IFun := ⟨[0, 1, 2, 3, 6],
  (.seq (jr [js 3 (.box whm 2 (.v 0)), js 4 (.mov (.c (.bool false)))])
  (.seq (jr [jn (.mov (.v 1)), jn (.call false w7w [(.r 0)]), jn (.mov (.r 1)), jt 2 (.mov (.v 1)), jt 2 (.mov (.v 2)), jt 2 (.faddr 0 (.v 3)), jt 2 (.load false 1 (.r 5)), jt 2 (.bin false .sub (.r 6) (jc 1)), jt 2 (.call false w7i [(.r 3), (.r 4), (.r 7)]), jn (.pick (.r 2) (.r 8) (.c (.bool false))), js 4 (.mov (.r 9))])
  .ret)),
  [.v 4]⟩
def we6 : IFun := ⟨[0, 1, 4, 5, 7, 8, 9, 16],
  (.seq (jr [js 2 (.mov (jc 0))])
  (.seq (.seq (jr [jn (.mov (.v 0)), js 4 (.len false (.r 0)), js 5 (.mov (jc 0))])
  (.block 0 (.loop [true, true, false, false, true, true, false, false] (.seq (jr [js 6 (.bin false .lss (.v 5) (.v 4))])
  (.seq (.cond (.v 6) .skip (.exit 0))
  (.seq (.block 1 (.seq (jr [jn (.mov (.v 5)), js 3 (.mov (.r 0))])
  (.seq (jr [jn (.mov (.v 1)), jn (.mov (.v 0)), jn (.mov (.v 3)), jn (.iaddr 1 (.r 1) (.r 2)), jn (.load false 1 (.r 3)), js 7 (.bin false .eql (.r 0) (.r 4))])
  (.cond (.v 7) (.seq (jr [jn (.mov (.v 3)), js 2 (.mov (.r 0))])
  .ret) .skip))))
  (jr [jn (.bin false .add (.v 5) (jc 1)), js 5 (.mov (.r 0))])))))))
  (.seq (jr [js 2 (.mov (jc (-1)))])
  .ret))),
  [.v 2]⟩
def wdw : IFun := ⟨[0, 1, 4],
  (.seq (jr [js 2 (.mov (.c (.bool false)))])
  (.seq (jr [jn (.mov (.v 0)), jn (.mov (.v 1)), jn (.call false w94 [(.r 0), (.r 1)]), jn (.bin false .geq (.r 2) (jc 0)), js 2 (.mov (.r 3))])
  .ret)),
  [.v 2]⟩
def wd5 : IFun := ⟨[0, 1, 2, 4, 5],
  (.seq (jr [js 2 (.box whm 2 (.v 0)), js 3 (.mov (.c (.bool false)))])
  (.seq (jr [jn (.faddr 1 (.v 2)), jn (.load false 1 (.r 0)), jn (.mov (.v 1)), jn (.iaddr 7 (.r 1) (.r 2)), jn (.load true 7 (.r 3)), js 4 (.alloc whn [(.int .i64 0), (.int .i64 0), (.nil true 1), (.nil true 1), (.nil true 1), (.nil true 1), (.int .i64 0)]), jn (.store 7 (.v 4) (.r 4))])
  (.seq (jr [jn (.faddr 0 (.v 4)), jn (.load false 1 (.r 0)), jn (.call false w8i [(.r 1), (jc 1), (jc 2)]), jn (.mov (.r 2)), jt 3 (.faddr 1 (.v 4)), jt 3 (.load false 1 (.r 4)), jt 3 (.call false w8i [(.r 5), (jc 1), (jc 3)]), jn (.pick (.r 3) (.r 6) (.c (.bool false))), jn (.mov (.r 7)), jt 8 (.faddr 6 (.v 4)), jt 8 (.load false 1 (.r 9)), jt 8 (.call false w8i [(.r 10), (jc 0), (jc 3)]), jn (.pick (.r 8) (.r 11) (.c (.bool false))), jn (.mov (.r 12)), jt 13 (.faddr 2 (.v 4)), jt 13 (.load false 1 (.r 14)), jt 13 (.len false (.r 15)), jt 13 (.call false w8i [(.r 16), (jc 1), (jc 3)]), jn (.pick (.r 13) (.r 17) (.c (.bool false))), jn (.mov (.r 18)), jt 19 (.load true 2 (.v 2)), jt 19 (.faddr 2 (.v 4)), jt 19 (.load false 1 (.r 21)), jt 19 (.call false w7j [(.r 20), (.r 22), (jc 0)]), jn (.pick (.r 19) (.r 23) (.c (.bool false))), jn (.mov (.r 24)), jt 25 (.faddr 3 (.v 4)), jt 25 (.load false 1 (.r 26)), jt 25 (.len false (.r 27)), jt 25 (.call false w8i [(.r 28), (jc 1), (jc 3)]), jn (.pick (.r 25) (.r 29) (.c (.bool false))), jn (.mov (.r 30)), jt 31 (.load true 2 (.v 2)), jt 31 (.faddr 3 (.v 4)), jt 31 (.load false 1 (.r 33)), jt 31 (.call false w7j [(.r 32), (.r 34), (jc 0)]), jn (.pick (.r 31) (.r 35) (.c (.bool false))), jn (.mov (.r 36)), jt 37 (.load true 2 (.v 2)), jt 37 (.faddr 4 (.v 4)), jt 37 (.load false 1 (.r 39)), jt 37 (.call false w7j [(.r 38), (.r 40), (jc 2)]), jn (.pick (.r 37) (.r 41) (.c (.bool false))), jn (.mov (.r 42)), jt 43 (.faddr 5 (.v 4)), jt 43 (.load false 1 (.r 44)), jt 43 (.call false w7w [(.r 45)]), jn (.pick (.r 43) (.r 46) (.c (.bool false))), jn (.mov (.r 47)), jt 48 (.faddr 5 (.v 4)), jt 48 (.load false 1 (.r 49)), jt 48 (.faddr 1 (.v 2)), jt 48 (.load false 1 (.r 51)), jt 48 (.len false (.r 52)), jt 48 (.bin false .sub (.r 53) (jc 1)), jt 48 (.call false w7i [(.r 50), (jc 0), (.r 54)]), jn (.pick (.r 48) (.r 55) (.c (.bool false))), jn (.mov (.r 56)), jt 57 (.faddr 5 (.v 4)), jt 57 (.load false 1 (.r 58)), jt 57 (.mov (.v 1)), jt 57 (.call false w8u [(.r 59), (.r 60)]), jt 57 (.not (.r 61)), jn (.pick (.r 57) (.r 62) (.c (.bool false))), js 3 (.mov (.r 63))])
  .ret))),
  [.v 3]⟩
def wd8 : IFun := ⟨[0, 1, 2, 3, 4, 5, 6, 7, 8, 10, 11, 12, 13, 31, 41, 47, 56, 63, 67, 68, 69],
  (.seq (jr [js 1 (.box whm 2 (.v 0)), js 2 (.nilrow whj true 3)])
  (.seq (jr [js 3 (.nilrow whj true 3)])
  (.seq (.seq (jr [jn (.faddr 1 (.v 1)), js 9 (.load false 1 (.r 0)), js 10 (.len false (.v 9)), js 11 (.mov (jc 0))])
  (.block 0 (.loop [false, false, false, true, false, false, false, false, false, true, true, true, false, false, false, false, false, false, false, false, false] (.seq (jr [js 12 (.bin false .lss (.v 11) (.v 10))])
  (.seq (.cond (.v 12) .skip (.exit 0))
  (.seq (.block 1 (.seq (jr [jn (.mov (.v 11)), jn (.iaddr 7 (.v 9) (.v 11)), jn (.load true 7 (.r 1)), js 5 (.alloc whn [(.int .i64 0), (.int .i64 0), (.nil true 1), (.nil true 1), (.nil true 1), (.nil true 1), (.int .i64 0)]), js 4 (.mov (.r 0)), jn (.store 7 (.v 5) (.r 2))])
  (.seq (jr [jn (.mov (.v 3)), jn (.mov (.v 4)), jn (.build [(.int .i64 0), (.bool false), (.int .i64 0)] [(0, 1, (.r 1)), (1, 1, (.c (.bool true))), (2, 1, (jc 0))]), jn (.bslice false whj true 3 [(.r 2)]), jn (.append whj true 3 (.r 0) (.r 3)), js 3 (.mov (.r 4))])
  (.seq (.seq (jr [js 6 (.mov (jc 1))])
  (.block 2 (.loop [false, false, false, true, true, true, true, false, false, true, true, true, false, false, false, false, false, false, false, false, false] (.seq (.seq (jr [jn (.faddr 0 (.v 5)), jn (.load false 1 (.r 0)), jn (.bin false .eql (.r 1) (jc 2)), jn (.mov (.r 2)), jt 3 (.mov (.v 6)), jt 3 (.faddr 2 (.v 5)), jt 3 (.load false 1 (.r 5)), jt 3 (.len false (.r 6)), jt 3 (.bin false .lss (.r 4) (.r 7)), js 13 (.pick (.r 3) (.r 8) (.c (.bool false)))])
  (.cond (.v 13) .skip (.exit 2)))
  (.seq (.block 3 (jr [jn (.mov (.v 3)), jn (.mov (.v 4)), jn (.mov (.v 6)), jn (.build [(.int .i64 0), (.bool false), (.int .i64 0)] [(0, 1, (.r 1)), (1, 1, (.c (.bool true))), (2, 1, (.r 2))]), jn (.bslice false whj true 3 [(.r 3)]), jn (.append whj true 3 (.r 0) (.r 4)), js 3 (.mov (.r 5))]))
  (jr [jn (.mov (.v 6)), jn (.bin false .add (.r 0) (jc 1)), js 6 (.mov (.r 1))]))))))
  (.seq (jr [jn (.faddr 1 (.v 5)), js 14 (.load false 1 (.r 0))])
  (.block 4 (.seq (jr [jn (.bin false .eql (.v 14) (jc 1)), js 16 (.mov (.r 0))])
  (.cond (.v 16) (jr [jn (.mov (.v 3)), jn (.mov (.v 4)), jn (.build [(.int .i64 0), (.bool false), (.int .i64 0)] [(0, 1, (.r 1)), (1, 1, (.c (.bool false))), (2, 1, (jc 0))]), jn (.bslice false whj true 3 [(.r 2)]), jn (.append whj true 3 (.r 0) (.r 3)), js 3 (.mov (.r 4))]) (.seq (jr [jn (.bin false .eql (.v 14) (jc 2)), js 17 (.mov (.r 0))])
  (.cond (.v 17) (.seq (jr [jn (.faddr 3 (.v 5)), jn (.load false 1 (.r 0)), js 18 (.len false (.r 1)), js 19 (.mov (jc 0))])
  (.block 7 (.loop [false, false, false, true, true, false, false, false, false, true, true, true, false, false, false, false, false, false, true, true, false] (.seq (jr [js 20 (.bin false .lss (.v 19) (.v 18))])
  (.seq (.cond (.v 20) .skip (.exit 7))
  (.seq (.block 8 (.seq (jr [jn (.mov (.v 19)), js 7 (.mov (.r 0))])
  (jr [jn (.mov (.v 3)), jn (.mov (.v 4)), jn (.mov (.v 7)), jn (.build [(.int .i64 0), (.bool false), (.int .i64 0)] [(0, 1, (.r 1)), (1, 1, (.c (.bool false))), (2, 1, (.r 2))]), jn (.bslice false whj true 3 [(.r 3)]), jn (.append whj true 3 (.r 0) (.r 4)), js 3 (.mov (.r 5))])))
  (jr [jn (.bin false .add (.v 19) (jc 1)), js 19 (.mov (.r 0))]))))))) (.seq (jr [js 8 (.mov (jc 1))])
  (.block 5 (.loop [false, false, false, true, true, true, false, false, true, true, true, true, false, false, false, false, false, false, false, false, false] (.seq (.seq (jr [jn (.mov (.v 8)), jn (.faddr 3 (.v 5)), jn (.load false 1 (.r 1)), jn (.len false (.r 2)), jn (.bin false .shl (jc 1) (.r 3)), js 15 (.bin false .lss (.r 0) (.r 4))])
  (.cond (.v 15) .skip (.exit 5)))
  (.seq (.block 6 (jr [jn (.mov (.v 3)), jn (.mov (.v 4)), jn (.mov (.v 8)), jn (.build [(.int .i64 0), (.bool false), (.int .i64 0)] [(0, 1, (.r 1)), (1, 1, (.c (.bool false))), (2, 1, (.r 2))]), jn (.bslice false whj true 3 [(.r 3)]), jn (.append whj true 3 (.r 0) (.r 4)), js 3 (.mov (.r 5))]))
  (jr [jn (.mov (.v 8)), jn (.bin false .add (.r 0) (jc 1)), js 8 (.mov (.r 1))]))))))))))))))))
  (jr [jn (.bin false .add (.v 11) (jc 1)), js 11 (.mov (.r 0))])))))))
  (.seq (jr [jn (.mov (.v 3)), js 2 (.mov (.r 0))])
  .ret)))),
  [.v 2]⟩
def wde : IFun := ⟨[0, 2, 3, 4, 8, 15],
  (.seq (jr [js 1 (.nilrow t_int true 1)])
  (.seq (jr [js 2 (.nilrow t_int true 1)])
  (.seq (.seq (jr [js 3 (.mov (jc 0))])
  (.block 0 (.loop [true, false, true, true, false, false] (.seq (.seq (jr [jn (.mov (.v 0)), jn (.mov (.v 3)), jn (.bin false .shr (.r 0) (.r 1)), js 4 (.bin false .neq (.r 2) (jc 0))])
  (.cond (.v 4) .skip (.exit 0)))
  (.seq (.block 1 (.seq (jr [jn (.mov (.v 0)), jn (.mov (.v 3)), jn (.bin false .shr (.r 0) (.r 1)), jn (.bin false .and (.r 2) (jc 1)), js 5 (.bin false .eql (.r 3) (jc 1))])
  (.cond (.v 5) (jr [jn (.mov (.v 2)), jn (.mov (.v 3)), jn (.bslice false t_int true 1 [(.r 1)]), jn (.append t_int true 1 (.r 0) (.r 2)), js 2 (.mov (.r 3))]) .skip)))
  (jr [jn (.mov (.v 3)), jn (.bin false .add (.r 0) (jc 1)), js 3 (.mov (.r 1))]))))))
  (.seq (jr [jn (.mov (.v 2)), js 1 (.mov (.r 0))])
  .ret)))),
  [.v 1]⟩
def wdd : IFun := ⟨[0, 1, 2, 4, 5, 7, 20, 21, 22, 23],
  (.seq (jr [js 2 (.box whm 2 (.v 0)), js 3 (.nilrow t_int true 1)])
  (.seq (jr [jn (.faddr 1 (.v 2)), jn (.load false 1 (.r 0)), jn (.mov (.v 1)), jn (.iaddr 7 (.r 1) (.r 2)), jn (.faddr 4 (.r 3)), jn (.load false 1 (.r 4)), jn (.call false w8o [(.r 5)]), js 4 (.mov (.r 6))])
  (.seq (.seq (jr [jn (.faddr 1 (.v 2)), jn (.load false 1 (.r 0)), jn (.mov (.v 1)), jn (.iaddr 7 (.r 1) (.r 2)), jn (.faddr 5 (.r 3)), js 6 (.load false 1 (.r 4)), js 7 (.len false (.v 6)), js 8 (.mov (jc 0))])
  (.block 0 (.loop [false, false, true, false, true, false, true, true, true, false] (.seq (jr [js 9 (.bin false .lss (.v 8) (.v 7))])
  (.seq (.cond (.v 9) .skip (.exit 0))
  (.seq (.block 1 (.seq (jr [jn (.iaddr 1 (.v 6) (.v 8)), jn (.load false 1 (.r 0)), js 5 (.mov (.r 1))])
  (jr [jn (.mov (.v 4)), jn (.faddr 0 (.v 2)), jn (.load false 1 (.r 1)), jn (.mov (.v 5)), jn (.bin false .add (.r 2) (.r 3)), jn (.bslice false t_int true 1 [(.r 4)]), jn (.append t_int true 1 (.r 0) (.r 5)), js 4 (.mov (.r 6))])))
  (jr [jn (.bin false .add (.v 8) (jc 1)), js 8 (.mov (.r 0))])))))))
  (.seq (jr [jn (.mov (.v 4)), js 3 (.mov (.r 0))])
  .ret)))),
  [.v 3]⟩
def wdk : IFun := ⟨[0, 1, 2, 3, 4, 5, 6, 7, 9, 23, 26, 45, 46, 55, 59, 60, 61, 62],
  (.seq (jr [js 2 (.box whm 2 (.v 0)), js 3 (.box whj 3 (.v 1)), js 4 (.alloc whp [(.nil true 1), (.nil true 1), (.nil true 1)])])
  (.seq (jr [jn (.faddr 1 (.v 2)), jn (.load false 1 (.r 0)), jn (.faddr 0 (.v 3)), jn (.load false 1 (.r 2)), jn (.iaddr 7 (.r 1) (.r 3)), jn (.load true 7 (.r 4)), js 5 (.alloc whn [(.int .i64 0), (.int .i64 0), (.nil true 1), (.nil true 1), (.nil true 1), (.nil true 1), (.int .i64 0)]), jn (.store 7 (.v 5) (.r 5))])
  (.seq (jr [jn (.faddr 0 (.v 2)), jn (.load false 1 (.r 0)), jn (.faddr 0 (.v 3)), jn (.load false 1 (.r 2)), jn (.bin false .add (.r 1) (.r 3)), jn (.bslice false t_int true 1 [(.r 4)]), js 6 (.mov (.r 5))])
  (.seq (.seq (jr [jn (.faddr 1 (.v 3)), js 9 (.load false 1 (.r 0))])
  (.cond (.v 9) (.seq (.seq (jr [jn (.faddr 0 (.v 5)), jn (.load false 1 (.r 0)), js 10 (.bin false .eql (.r 1) (jc 2))])
  (.cond (.v 10) (.seq (jr [jn (.faddr 2 (.v 5)), jn (.load false 1 (.r 0)), jn (.faddr 2 (.v 3)), jn (.load false 1 (.r 2)), jn (.iaddr 1 (.r 1) (.r 3)), jn (.load false 1 (.r 4)), jn (.bslice false t_int true 1 [(.r 5)]), jn (.mov (.v 6)), jn (.build [(.nil true 1), (.nil true 1), (.nil true 1)] [(0, 1, (.r 6)), (1, 1, (.r 7))]), jn (.store 3 (.v 4) (.r 8))])
  .ret) .skip))
  (.seq (jr [jn (.faddr 2 (.v 5)), jn (.load false 1 (.r 0)), jn (.call false w8o [(.r 1)]), jn (.mov (.v 6)), jn (.build [(.nil true 1), (.nil true 1), (.nil true 1)] [(0, 1, (.r 2)), (1, 1, (.r 3))]), jn (.store 3 (.v 4) (.r 4))])
  .ret)) .skip))
  (.seq (jr [jn (.faddr 3 (.v 5)), jn (.load false 1 (.r 0)), jn (.call false w8o [(.r 1)]), js 7 (.mov (.r 2))])
  (.seq (.seq (jr [jn (.faddr 1 (.v 5)), js 11 (.load false 1 (.r 0))])
  (.block 0 (.seq (jr [jn (.bin false .eql (.v 11) (jc 2)), js 12 (.mov (.r 0))])
  (.cond (.v 12) (jr [jn (.faddr 3 (.v 5)), jn (.load false 1 (.r 0)), jn (.faddr 2 (.v 3)), jn (.load false 1 (.r 2)), jn (.iaddr 1 (.r 1) (.r 3)), jn (.load false 1 (.r 4)), jn (.bslice false t_int true 1 [(.r 5)]), js 7 (.mov (.r 6))]) (.seq (jr [jn (.bin false .eql (.v 11) (jc 3)), js 13 (.mov (.r 0))])
  (.cond (.v 13) (.seq (jr [js 7 (.nilrow t_int true 1)])
  (.seq (jr [jn (.faddr 2 (.v 3)), jn (.load false 1 (.r 0)), js 14 (.call false w8b [(.r 1)]), js 15 (.len false (.v 14)), js 16 (.mov (jc 0))])
  (.block 1 (.loop [false, false, true, true, true, true, true, true, false, false, false, false, false, false, true, true, true, false] (.seq (jr [js 17 (.bin false .lss (.v 16) (.v 15))])
  (.seq (.cond (.v 17) .skip (.exit 1))
  (.seq (.block 2 (.seq (jr [jn (.iaddr 1 (.v 14) (.v 16)), jn (.load false 1 (.r 0)), js 8 (.mov (.r 1))])
  (jr [jn (.mov (.v 7)), jn (.faddr 3 (.v 5)), jn (.load false 1 (.r 1)), jn (.mov (.v 8)), jn (.iaddr 1 (.r 2) (.r 3)), jn (.load false 1 (.r 4)), jn (.bslice false t_int true 1 [(.r 5)]), jn (.append t_int true 1 (.r 0) (.r 6)), js 7 (.mov (.r 7))])))
  (jr [jn (.bin false .add (.v 16) (jc 1)), js 16 (.mov (.r 0))])))))))) .skip))))))
  (.seq (jr [jn (.mov (.v 6)), jn (.mov (.v 7)), jn (.load true 2 (.v 2)), jn (.faddr 0 (.v 3)), jn (.load false 1 (.r 3)), jn (.call false w8a [(.r 2), (.r 4)]), jn (.build [(.nil true 1), (.nil true 1), (.nil true 1)] [(0, 1, (.r 0)), (1, 1, (.r 1)), (2, 1, (.r 5))]), jn (.store 3 (.v 4) (.r 6))])
  .ret))))))),
  [.cell true 3 4]⟩
def wdg : IFun := ⟨[0, 1, 2, 3, 5, 14, 15, 16, 17],
  (.seq (jr [js 1 (.box whm 2 (.v 0)), js 2 (.alloc whi [(.int .i64 0), (.nil false 3), (.int .i64 0), (.int .i64 0)])])
  (.seq (jr [jn (.faddr 0 (.v 1)), jn (.load false 1 (.r 0)), jn (.faddr 1 (.v 1)), jn (.load false 1 (.r 2)), jn (.len false (.r 3)), jn (.bin false .add (.r 1) (.r 4)), jn (.build [(.int .i64 0), (.nil false 3)] [(0, 1, (.r 5))]), js 3 (.alloc whk [(.int .i64 0), (.nil false 3)]), jn (.store 2 (.v 3) (.r 6))])
  (.seq (.seq (jr [jn (.load true 2 (.v 1)), js 5 (.call false w85 [(.r 0)]), js 6 (.len false (.v 5)), js 7 (.mov (jc 0))])
  (.block 0 (.loop [false, true, true, true, false, true, true, true, false] (.seq (jr [js 8 (.bin false .lss (.v 7) (.v 6))])
  (.seq (.cond (.v 8) .skip (.exit 0))
  (.seq (.block 1 (.seq (jr [jn (.iaddr 3 (.v 5) (.v 7)), jn (.load true 3 (.r 0)), js 4 (.alloc whj [(.int .i64 0), (.bool false), (.int .i64 0)]), jn (.store 3 (.v 4) (.r 1))])
  (.region true [(4, 1), (5, 1)] [jn (.faddr 1 (.v 3)), jn (.load false 1 (.r 0)), jn (.load true 2 (.v 1)), jn (.load true 3 (.v 4)), jn (.call false w8h [(.r 2), (.r 3)]), jn (.bslice false whp false 3 [(.r 4)]), jn (.append whp false 3 (.r 1) (.r 5)), jn (.faddr 1 (.v 3)), jn (.store 1 (.r 7) (.r 6))])))
  (jr [jn (.bin false .add (.v 7) (jc 1)), js 7 (.mov (.r 0))])))))))
  (.seq (jr [jn (.load true 2 (.v 3)), jn (.build [(.int .i64 0), (.nil false 3), (.int .i64 0), (.int .i64 0)] [(0, 2, (.r 0)), (2, 1, (jc 0)), (3, 1, (jc 1))]), jn (.store 4 (.v 2) (.r 1))])
  .ret)))),
  [.cell true 4 2]⟩
def wcp : IFun := ⟨[0, 1, 2, 4],
  (.seq (jr [js 2 (.box whk 2 (.v 0)), js 3 (.mov (.c (.bool false)))])
  (.seq (jr [jn (.mov (.v 1)), jn (.call false w7w [(.r 0)]), jn (.mov (.r 1)), jt 2 (.mov (.v 1)), jt 2 (.faddr 0 (.v 2)), jt 2 (.load false 1 (.r 4)), jt 2 (.bin false .sub (.r 5) (jc 1)), jt 2 (.call false w7i [(.r 3), (jc 0), (.r 6)]), jn (.pick (.r 2) (.r 7) (.c (.bool false))), js 3 (.mov (.r 8))])
  .ret)),
  [.v 3]⟩
def wc7 : IFun := ⟨[0, 1, 2, 3],
  (.seq (jr [js 2 (.box whp 3 (.v 0)), js 3 (.mov (.c (.bool false)))])
  (.seq (jr [jn (.faddr 0 (.v 2)), jn (.load false 1 (.r 0)), jn (.len false (.r 1)), jn (.bin false .eql (.r 2) (jc 0)), jn (.mov (.r 3)), jf 4 (.load true 2 (.v 1)), jf 4 (.faddr 0 (.v 2)), jf 4 (.load false 1 (.r 6)), jf 4 (.call false w7m [(.r 5), (.r 7)]), jf 4 (.not (.r 8)), jn (.pick (.r 4) (.c (.bool true)) (.r 9)), jn (.mov (.r 10)), jf 11 (.load true 2 (.v 1)), jf 11 (.faddr 1 (.v 2)), jf 11 (.load false 1 (.r 13)), jf 11 (.call false w7m [(.r 12), (.r 14)]), jf 11 (.not (.r 15)), jn (.pick (.r 11) (.c (.bool true)) (.r 16)), jn (.mov (.r 17)), jf 18 (.load true 2 (.v 1)), jf 18 (.faddr 2 (.v 2)), jf 18 (.load false 1 (.r 20)), jf 18 (.call false w7m [(.r 19), (.r 21)]), jf 18 (.not (.r 22)), jn (.pick (.r 18) (.c (.bool true)) (.r 23)), js 3 (.mov (.r 24))])
  .ret)),
  [.v 3]⟩
def we1 : IFun := ⟨[0, 1, 4, 5, 7, 8, 9, 16],
  (.seq (jr [js 2 (.mov (jc 0))])
  (.seq (.seq (jr [jn (.mov (.v 0)), js 4 (.len false (.r 0)), js 5 (.mov (jc 0))])
  (.block 0 (.loop [true, true, false, false, true, true, false, false] (.seq (jr [js 6 (.bin false .lss (.v 5) (.v 4))])
  (.seq (.cond (.v 6) .skip (.exit 0))
  (.seq (.block 1 (.seq (jr [jn (.mov (.v 5)), js 3 (.mov (.r 0))])
  (.seq (jr [jn (.mov (.v 1)), jn (.mov (.v 0)), jn (.mov (.v 3)), jn (.iaddr 3 (.r 1) (.r 2)), jn (.load true 3 (.r 3)), js 7 (.callv false (.r 0) [(.r 4)])])
  (.cond (.v 7) (.seq (jr [jn (.mov (.v 3)), js 2 (.mov (.r 0))])
  .ret) .skip))))
  (jr [jn (.bin false .add (.v 5) (jc 1)), js 5 (.mov (.r 0))])))))))
  (.seq (jr [js 2 (.mov (jc (-1)))])
  .ret))),
  [.v 2]⟩
def wds : IFun := ⟨[0, 1, 4],
  (.seq (jr [js 2 (.mov (.c (.bool false)))])
  (.seq (jr [jn (.mov (.v 0)), jn (.mov (.v 1)), jn (.call false w8z [(.r 0), (.r 1)]), jn (.bin false .geq (.r 2) (jc 0)), js 2 (.mov (.r 3))])
  .ret)),
  [.v 2]⟩
def wc6 : IFun := ⟨[0, 1, 2],
  (.seq (jr [js 1 (.box whk 2 (.v 0)), js 2 (.mov (.c (.bool false)))])
  (.seq (jr [jn (.faddr 0 (.v 1)), jn (.load false 1 (.r 0)), jn (.call false w8i [(.r 1), (jc 1), (jc 16)]), jn (.mov (.r 2)), jt 3 (.faddr 1 (.v 1)), jt 3 (.load false 1 (.r 4)), jt 3 (.len false (.r 5)), jt 3 (.bin false .leq (.r 6) (jc 24)), jn (.pick (.r 3) (.r 7) (.c (.bool false))), jn (.mov (.r 8)), jt 9 (.faddr 1 (.v 1)), jt 9 (.load false 1 (.r 10)), jt 9 (.mkfn w74 [(.v 1)]), jt 9 (.call false w8q [(.r 11), (.r 12)]), jt 9 (.not (.r 13)), jn (.pick (.r 9) (.r 14) (.c (.bool false))), js 2 (.mov (.r 15))])
  .ret)),
  [.v 2]⟩
def wdc : IFun := ⟨[0, 1, 3],
  (.seq (jr [js 2 (.mov (.c (.bool false)))])
  (.seq (jr [jn (.load false 1 (.v 1)), jn (.mov (.v 0)), jn (.iaddr 1 (.r 0) (.r 1)), jn (.load false 1 (.r 2)), js 2 (.mov (.r 3))])
  .ret)),
  [.v 2]⟩
def we2 : IFun := ⟨[0, 1, 4, 5, 7, 8, 9, 16],
  (.seq (jr [js 2 (.mov (jc 0))])
  (.seq (.seq (jr [jn (.mov (.v 0)), js 4 (.len false (.r 0)), js 5 (.mov (jc 0))])
  (.block 0 (.loop [true, true, false, false, true, true, false, false] (.seq (jr [js 6 (.bin false .lss (.v 5) (.v 4))])
  (.seq (.cond (.v 6) .skip (.exit 0))
  (.seq (.block 1 (.seq (jr [jn (.mov (.v 5)), js 3 (.mov (.r 0))])
  (.seq (jr [jn (.mov (.v 1)), jn (.mov (.v 0)), jn (.mov (.v 3)), jn (.iaddr 1 (.r 1) (.r 2)), jn (.load false 1 (.r 3)), js 7 (.callv false (.r 0) [(.r 4)])])
  (.cond (.v 7) (.seq (jr [jn (.mov (.v 3)), js 2 (.mov (.r 0))])
  .ret) .skip))))
  (jr [jn (.bin false .add (.v 5) (jc 1)), js 5 (.mov (.r 0))])))))))
  (.seq (jr [js 2 (.mov (jc (-1)))])
  .ret))),
  [.v 2]⟩
def wdt : IFun := ⟨[0, 1, 4],
  (.seq (jr [js 2 (.mov (.c (.bool false)))])
  (.seq (jr [jn (.mov (.v 0)), jn (.mov (.v 1)), jn (.call false w90 [(.r 0), (.r 1)]), jn (.bin false .geq (.r 2) (jc 0)), js 2 (.mov (.r 3))])
  .ret)),
  [.v 2]⟩
def wdb : IFun := ⟨[0, 1, 2, 3, 6, 7, 8, 9, 10, 11, 12, 13, 14, 16, 27, 29, 30, 31, 32, 40, 52, 56, 57, 58, 59],
  (.seq (jr [js 3 (.box whk 2 (.v 0)), js 4 (.nilrow whf true 1), js 5 (.nilrow whf true 1)])
  (.seq (.region true [(8, 4)] [jn (.faddr 0 (.v 3)), jn (.load false 1 (.r 0)), jn (.mk whf true 1 (.bool false) (.r 1)), jn (.faddr 1 (.v 3)), jn (.load false 1 (.r 3)), jn (.len false (.r 4)), jn (.mk whf true 1 (.bool false) (.r 5)), js 6 (.alloc whr [(.nil true 1)]), jn (.store 1 (.v 6) (.r 2)), js 7 (.mov (.r 6))])
  (.seq (jr [jn (.load false 1 (.v 6)), jn (.mov (.v 1)), jn (.iaddr 1 (.r 0) (.r 1)), jn (.store 1 (.r 2) (.c (.bool true)))])
  (.seq (.seq (jr [js 8 (.mov (.c (.bool true)))])
  (.block 0 (.loop [false, false, true, true, false, false, true, true, true, false, false, false, false, false, false, false, false, false, false, false, false, false, false, false, false] (.seq (.seq (jr [js 14 (.mov (.v 8))])
  (.cond (.v 14) .skip (.exit 0)))
  (.block 1 (.seq (jr [js 8 (.mov (.c (.bool false)))])
  (.seq (jr [jn (.faddr 1 (.v 3)), js 15 (.load false 1 (.r 0)), js 16 (.len false (.v 15)), js 17 (.mov (jc 0))])
  (.block 2 (.loop [false, false, true, true, false, false, true, true, true, false, false, false, false, false, false, true, true, true, false, false, false, false, false, false, false] (.seq (jr [js 18 (.bin false .lss (.v 17) (.v 16))])
  (.seq (.cond (.v 18) .skip (.exit 2))
  (.seq (.block 3 (.seq (jr [jn (.mov (.v 17)), jn (.iaddr 3 (.v 15) (.v 17)), jn (.load true 3 (.r 1)), js 10 (.alloc whp [(.nil true 1), (.nil true 1), (.nil true 1)]), js 9 (.mov (.r 0)), jn (.store 3 (.v 10) (.r 2))])
  (.seq (.region true [] [jn (.faddr 0 (.v 10)), jn (.load false 1 (.r 0)), jn (.faddr 1 (.v 10)), jn (.load false 1 (.r 2)), js 11 (.mov (.r 1)), js 12 (.mov (.r 3))])
  (.seq (.seq (jr [js 19 (.mov (.v 2))])
  (.cond (.v 19) (jr [jn (.mov (.v 12)), jn (.mov (.v 11)), js 11 (.mov (.r 0)), js 12 (.mov (.r 1))]) .skip))
  (.seq (.seq (jr [jn (.mov (.v 7)), jn (.mov (.v 9)), jn (.iaddr 1 (.r 0) (.r 1)), jn (.load false 1 (.r 2)), jn (.mov (.r 3)), jf 4 (.mov (.v 11)), jf 4 (.mkfn w89 [(.v 6)]), jf 4 (.call false w8r [(.r 5), (.r 6)]), jf 4 (.not (.r 7)), js 20 (.pick (.r 4) (.c (.bool true)) (.r 8))])
  (.cond (.v 20) (.exit 3) .skip))
  (.seq (jr [jn (.mov (.v 7)), jn (.mov (.v 9)), jn (.iaddr 1 (.r 0) (.r 1)), jn (.store 1 (.r 2) (.c (.bool true))), js 8 (.mov (.c (.bool true)))])
  (.seq (jr [js 21 (.mov (.v 12)), js 22 (.len false (.v 21)), js 23 (.mov (jc 0))])
  (.block 4 (.loop [false, false, true, true, false, false, true, true, true, false, false, false, false, false, false, true, true, true, false, false, false, true, true, true, false] (.seq (jr [js 24 (.bin false .lss (.v 23) (.v 22))])
  (.seq (.cond (.v 24) .skip (.exit 4))
  (.seq (.block 5 (.seq (jr [jn (.iaddr 1 (.v 21) (.v 23)), jn (.load false 1 (.r 0)), js 13 (.mov (.r 1))])
  (jr [jn (.load false 1 (.v 6)), jn (.mov (.v 13)), jn (.iaddr 1 (.r 0) (.r 1)), jn (.store 1 (.r 2) (.c (.bool true)))])))
  (jr [jn (.bin false .add (.v 23) (jc 1)), js 23 (.mov (.r 0))])))))))))))))
  (jr [jn (.bin false .add (.v 17) (jc 1)), js 17 (.mov (.r 0))])))))))))))))
  (.seq (jr [jn (.load false 1 (.v 6)), jn (.mov (.v 7)), js 4 (.mov (.r 0)), js 5 (.mov (.r 1))])
  .ret))))),
  [.v 4, .v 5]⟩
def wcq : IFun := ⟨[0, 1, 4, 5, 6, 7, 8, 9, 10, 11, 21],
  (.seq (jr [js 2 (.nilrow t_int true 1)])
  (.seq (jr [js 3 (.nilrow t_int true 1)])
  (.seq (.seq (jr [js 6 (.mov (.v 0)), js 7 (.len false (.v 6)), js 8 (.mov (jc 0))])
  (.block 0 (.loop [false, true, false, true, false, false, true, true, true, false, false] (.seq (jr [js 9 (.bin false .lss (.v 8) (.v 7))])
  (.seq (.cond (.v 9) .skip (.exit 0))
  (.seq (.block 1 (.seq (jr [jn (.mov (.v 8)), jn (.iaddr 1 (.v 6) (.v 8)), jn (.load false 1 (.r 1)), js 4 (.mov (.r 0)), js 5 (.mov (.r 2))])
  (.seq (jr [jn (.mov (.v 5)), jn (.mov (.r 0)), jt 1 (.mov (.v 1)), jt 1 (.mov (.v 4)), jt 1 (.iaddr 1 (.r 2) (.r 3)), jt 1 (.load false 1 (.r 4)), js 10 (.pick (.r 1) (.r 5) (.c (.bool false)))])
  (.cond (.v 10) (jr [jn (.mov (.v 3)), jn (.mov (.v 4)), jn (.bslice false t_int true 1 [(.r 1)]), jn (.append t_int true 1 (.r 0) (.r 2)), js 3 (.mov (.r 3))]) .skip))))
  (jr [jn (.bin false .add (.v 8) (jc 1)), js 8 (.mov (.r 0))])))))))
  (.seq (jr [jn (.mov (.v 3)), js 2 (.mov (.r 0))])
  .ret)))),
  [.v 2]⟩
def wda : IFun := ⟨[0, 1, 2, 3, 6, 7, 8, 9, 10, 11],
  (.seq (jr [js 3 (.box whk 2 (.v 0)), js 4 (.nilrow t_int true 1), js 5 (.nilrow t_int true 1)])
  (.seq (jr [jn (.load true 2 (.v 3)), jn (.mov (.v 1)), jn (.call false w88 [(.r 0), (.r 1), (.c (.bool false))]), jn (.mov (.r 2)), jn (.extract (.r 3) 0), jn (.extract (.r 3) 1), js 6 (.mov (.r 4)), js 7 (.mov (.r 5))])
  (.seq (jr [jn (.load true 2 (.v 3)), jn (.mov (.v 2)), jn (.call false w88 [(.r 0), (.r 1), (.c (.bool true))]), jn (.mov (.r 2)), jn (.extract (.r 3) 0), jn (.extract (.r 3) 1), js 8 (.mov (.r 4)), js 9 (.mov (.r 5))])
  (.seq (jr [jn (.mov (.v 6)), jn (.mov (.v 8)), jn (.call false w7n [(.r 0), (.r 1)]), jn (.mov (.v 7)), jn (.mov (.v 9)), jn (.call false w7n [(.r 3), (.r 4)]), js 4 (.mov (.r 2)), js 5 (.mov (.r 5))])
  .ret)))),
  [.v 4, .v 5]⟩
def wc4 : IFun := ⟨[0, 1, 2, 3, 5, 6, 7, 37, 39, 40, 41, 42, 70],
  (.seq (jr [js 1 (.box whi 4 (.v 0)), js 2 (.mov (.c (.bool false)))])
  (.seq (jr [jn (.faddr 0 (.v 1)), jn (.load true 2 (.r 0)), js 3 (.alloc whk [(.int .i64 0), (.nil false 3)]), jn (.store 2 (.v 3) (.r 1))])
  (.seq (.seq (jr [jn (.load true 2 (.v 3)), jn (.call false w73 [(.r 0)]), jn (.not (.r 1)), jn (.mov (.r 2)), jf 3 (.faddr 2 (.v 1)), jf 3 (.load false 1 (.r 4)), jf 3 (.faddr 0 (.v 3)), jf 3 (.load false 1 (.r 6)), jf 3 (.bin false .sub (.r 7) (jc 1)), jf 3 (.call false w8i [(.r 5), (jc 0), (.r 8)]), jf 3 (.not (.r 9)), jn (.pick (.r 3) (.c (.bool true)) (.r 10)), jn (.mov (.r 11)), jf 12 (.faddr 3 (.v 1)), jf 12 (.load false 1 (.r 13)), jf 12 (.faddr 0 (.v 3)), jf 12 (.load false 1 (.r 15)), jf 12 (.bin false .sub (.r 16) (jc 1)), jf 12 (.call false w8i [(.r 14), (jc 0), (.r 17)]), jf 12 (.not (.r 18)), jn (.pick (.r 12) (.c (.bool true)) (.r 19)), jn (.mov (.r 20)), jf 21 (.faddr 2 (.v 1)), jf 21 (.load false 1 (.r 22)), jf 21 (.faddr 3 (.v 1)), jf 21 (.load false 1 (.r 24)), jf 21 (.bin false .eql (.r 23) (.r 25)), js 7 (.pick (.r 21) (.c (.bool true)) (.r 26))])
  (.cond (.v 7) (.seq (jr [js 2 (.mov (.c (.bool false)))])
  .ret) .skip))
  (.seq (.seq (jr [jn (.faddr 1 (.v 3)), js 8 (.load false 1 (.r 0)), js 9 (.len false (.v 8)), js 10 (.mov (jc 0))])
  (.block 0 (.loop [false, true, false, true, false, false, false, false, true, true, true, false, false] (.seq (jr [js 11 (.bin false .lss (.v 10) (.v 9))])
  (.seq (.cond (.v 11) .skip (.exit 0))
  (.seq (.block 1 (.seq (jr [jn (.iaddr 3 (.v 8) (.v 10)), jn (.load true 3 (.r 0)), js 4 (.alloc whp [(.nil true 1), (.nil true 1), (.nil true 1)]), jn (.store 3 (.v 4) (.r 1))])
  (.seq (jr [jn (.faddr 1 (.v 4)), jn (.load false 1 (.r 0)), jn (.faddr 2 (.v 1)), jn (.load false 1 (.r 2)), jn (.call false w8u [(.r 1), (.r 3)]), jn (.mov (.r 4)), jf 5 (.faddr 0 (.v 4)), jf 5 (.load false 1 (.r 6)), jf 5 (.faddr 3 (.v 1)), jf 5 (.load false 1 (.r 8)), jf 5 (.call false w8u [(.r 7), (.r 9)]), jn (.pick (.r 5) (.c (.bool true)) (.r 10)), jn (.mov (.r 11)), jf 12 (.faddr 2 (.v 4)), jf 12 (.load false 1 (.r 13)), jf 12 (.faddr 2 (.v 1)), jf 12 (.load false 1 (.r 15)), jf 12 (.call false w8u [(.r 14), (.r 16)]), jn (.pick (.r 12) (.c (.bool true)) (.r 17)), jn (.mov (.r 18)), jf 19 (.faddr 2 (.v 4)), jf 19 (.load false 1 (.r 20)), jf 19 (.faddr 3 (.v 1)), jf 19 (.load false 1 (.r 22)), jf 19 (.call false w8u [(.r 21), (.r 23)]), js 12 (.pick (.r 19) (.c (.bool true)) (.r 24))])
  (.cond (.v 12) (.seq (jr [js 2 (.mov (.c (.bool false)))])
  .ret) .skip))))
  (jr [jn (.bin false .add (.v 10) (jc 1)), js 10 (.mov (.r 0))])))))))
  (.seq (jr [jn (.load true 2 (.v 3)), jn (.faddr 2 (.v 1)), jn (.load false 1 (.r 1)), jn (.faddr 3 (.v 1)), jn (.load false 1 (.r 3)), jn (.call false w87 [(.r 0), (.r 2), (.r 4)]), jn (.mov (.r 5)), jn (.extract (.r 6) 0), jn (.extract (.r 6) 1), js 5 (.mov (.r 7)), js 6 (.mov (.r 8))])
  (.seq (jr [jn (.mov (.v 5)), jn (.len false (.r 0)), jn (.faddr 0 (.v 3)), jn (.load false 1 (.r 2)), jn (.bin false .eql (.r 1) (.r 3)), jn (.mov (.r 4)), jt 5 (.mov (.v 6)), jt 5 (.len false (.r 6)), jt 5 (.faddr 1 (.v 3)), jt 5 (.load false 1 (.r 8)), jt 5 (.len false (.r 9)), jt 5 (.bin false .eql (.r 7) (.r 10)), jn (.pick (.r 5) (.r 11) (.c (.bool false))), js 2 (.mov (.r 12))])
  .ret)))))),
  [.v 2]⟩
def wd4 : IFun := ⟨[0, 1, 2, 3, 14, 17, 18, 19, 24],
  (.seq (jr [js 1 (.box whm 2 (.v 0)), js 2 (.mov (.c (.bool false)))])
  (.seq (.seq (jr [jn (.faddr 0 (.v 1)), jn (.load false 1 (.r 0)), jn (.call false w8i [(.r 1), (jc 2), (jc 8)]), jn (.not (.r 2)), jn (.mov (.r 3)), jf 4 (.faddr 1 (.v 1)), jf 4 (.load false 1 (.r 5)), jf 4 (.len false (.r 6)), jf 4 (.call false w8i [(.r 7), (jc 1), (jc 6)]), jf 4 (.not (.r 8)), js 4 (.pick (.r 4) (.c (.bool true)) (.r 9))])
  (.cond (.v 4) (.seq (jr [js 2 (.mov (.c (.bool false)))])
  .ret) .skip))
  (.seq (.seq (jr [jn (.faddr 1 (.v 1)), jn (.load false 1 (.r 0)), js 5 (.len false (.r 1)), js 6 (.mov (jc 0))])
  (.block 0 (.loop [false, true, false, false, false, true, true, false, false] (.seq (jr [js 7 (.bin false .lss (.v 6) (.v 5))])
  (.seq (.cond (.v 7) .skip (.exit 0))
  (.seq (.block 1 (.seq (jr [jn (.mov (.v 6)), js 3 (.mov (.r 0))])
  (.seq (jr [jn (.load true 2 (.v 1)), jn (.mov (.v 3)), jn (.call false w82 [(.r 0), (.r 1)]), js 8 (.not (.r 2))])
  (.cond (.v 8) (.seq (jr [js 2 (.mov (.c (.bool false)))])
  .ret) .skip))))
  (jr [jn (.bin false .add (.v 6) (jc 1)), js 6 (.mov (.r 0))])))))))
  (.seq (jr [jn (.load true 2 (.v 1)), jn (.call false w8d [(.r 0)]), jn (.call false w71 [(.r 1)]), js 2 (.mov (.r 2))])
  .ret)))),
  [.v 2]⟩
def wdf : IFun := ⟨[0, 1, 4, 5],
  (.seq (jr [js 2 (.nilrow t_int true 1)])
  (.seq (jr [jn (.mov (.v 0)), jn (.mk t_int true 1 (.int .i64 0) (.r 0)), js 3 (.mov (.r 1))])
  (.seq (jr [jn (.mov (.v 3)), jn (.mov (.v 1)), jn (.iaddr 1 (.r 0) (.r 1)), jn (.store 1 (.r 2) (jc 1))])
  (.seq (jr [jn (.mov (.v 3)), js 2 (.mov (.r 0))])
  .ret)))),
  [.v 2]⟩
def wd9 : IFun := ⟨[0, 1, 2],
  (.seq (jr [js 1 (.box whm 2 (.v 0)), js 2 (.alloc whh [(.int .i64 0), (.nil true 1)])])
  (.seq (jr [jn (.faddr 0 (.v 1)), jn (.load false 1 (.r 0)), jn (.faddr 1 (.v 1)), jn (.load false 1 (.r 2)), jn (.len false (.r 3)), jn (.bin false .add (.r 1) (.r 4)), jn (.call false w8c [(.r 5), (jc 0)]), jn (.build [(.int .i64 0), (.nil true 1)] [(0, 1, (jc 1)), (1, 1, (.r 6))]), jn (.store 2 (.v 2) (.r 7))])
  .ret)),
  [.cell true 2 2]⟩
def wd2 : IFun := ⟨[0, 1, 3],
  (.seq (jr [js 2 (.mov (.c (.bool false)))])
  (.seq (jr [jn (.load false 1 (.v 1)), jn (.mov (.v 0)), jn (.iaddr 1 (.r 0) (.r 1)), jn (.load false 1 (.r 2)), jn (.bin false .eql (.r 3) (jc 0)), js 2 (.mov (.r 4))])
  .ret)),
  [.v 2]⟩
def wd1 : IFun := ⟨[0, 1, 2, 3, 4],
  (.seq (jr [js 2 (.box whp 3 (.v 0)), js 3 (.box whs 1 (.v 1)), js 4 (.mov (.c (.bool false)))])
  (.seq (jr [jn (.faddr 0 (.v 2)), jn (.load false 1 (.r 0)), jn (.mkfn w7z [(.v 3)]), jn (.call false w8r [(.r 1), (.r 2)]), jn (.not (.r 3)), js 4 (.mov (.r 4))])
  .ret)),
  [.v 4]⟩
def wd7 : IFun := ⟨[0, 1, 2, 3, 4],
  (.seq (jr [js 3 (.box whj 3 (.v 0)), js 4 (.mov (.c (.bool false)))])
  (.seq (.region true [(4, 3)] [jn (.load true 2 (.v 1)), jn (.load true 3 (.v 3)), jn (.faddr 1 (.v 2)), jn (.load false 1 (.r 2)), jn (.call false w8h [(.r 0), (.r 1)]), jn (.call false w7y [(.r 4), (.r 3)]), jn (.not (.r 5)), js 4 (.mov (.r 6))])
  .ret)),
  [.v 4]⟩
def we0 : IFun := ⟨[0, 1, 4, 5, 7, 8, 9, 16],
  (.seq (jr [js 2 (.mov (jc 0))])
  (.seq (.seq (jr [jn (.mov (.v 0)), js 4 (.len false (.r 0)), js 5 (.mov (jc 0))])
  (.block 0 (.loop [true, true, false, false, true, true, false, false] (.seq (jr [js 6 (.bin false .lss (.v 5) (.v 4))])
  (.seq (.cond (.v 6) .skip (.exit 0))
  (.seq (.block 1 (.seq (jr [jn (.mov (.v 5)), js 3 (.mov (.r 0))])
  (.seq (jr [jn (.mov (.v 1)), jn (.mov (.v 0)), jn (.mov (.v 3)), jn (.iaddr 3 (.r 1) (.r 2)), jn (.load true 3 (.r 3)), js 7 (.callv false (.r 0) [(.r 4)])])
  (.cond (.v 7) (.seq (jr [jn (.mov (.v 3)), js 2 (.mov (.r 0))])
  .ret) .skip))))
  (jr [jn (.bin false .add (.v 5) (jc 1)), js 5 (.mov (.r 0))])))))))
  (.seq (jr [js 2 (.mov (jc (-1)))])
  .ret))),
  [.v 2]⟩
def wdx : IFun := ⟨[0, 1, 4, 5, 6, 7, 12, 19, 29],
  (.seq (jr [js 2 (.nilrow whj true 3)])
  (.seq (jr [jn (.mov (.v 0)), jn (.mov (.v 1)), jn (.call false w8y [(.r 0), (.r 1)]), js 3 (.mov (.r 2))])
  (.seq (.seq (jr [jn (.mov (.v 3)), js 6 (.bin false .eql (.r 0) (jc (-1)))])
  (.cond (.v 6) (.seq (jr [jn (.mov (.v 0)), js 2 (.mov (.r 0))])
  .ret) .skip))
  (.seq (.seq (jr [jn (.mov (.v 3)), jn (.bin false .add (.r 0) (jc 1)), js 4 (.mov (.r 1))])
  (.block 0 (.loop [true, true, false, true, true, false, false, false, false] (.seq (.seq (jr [jn (.mov (.v 4)), jn (.mov (.v 0)), jn (.len false (.r 1)), js 7 (.bin false .lss (.r 0) (.r 2))])
  (.cond (.v 7) .skip (.exit 0)))
  (.seq (.block 1 (.seq (jr [jn (.mov (.v 0)), jn (.mov (.v 4)), jn (.iaddr 3 (.r 0) (.r 1)), jn (.load true 3 (.r 2)), js 5 (.alloc whj [(.int .i64 0), (.bool false), (.int .i64 0)]), jn (.store 3 (.v 5) (.r 3))])
  (.seq (jr [jn (.mov (.v 1)), jn (.load true 3 (.v 5)), jn (.callv false (.r 0) [(.r 1)]), js 8 (.not (.r 2))])
  (.cond (.v 8) (.seq (jr [jn (.mov (.v 0)), jn (.mov (.v 3)), jn (.load true 3 (.v 5)), jn (.iaddr 3 (.r 0) (.r 1)), jn (.store 3 (.r 3) (.r 2))])
  (jr [jn (.mov (.v 3)), jn (.bin false .add (.r 0) (jc 1)), js 3 (.mov (.r 1))])) .skip))))
  (jr [jn (.mov (.v 4)), jn (.bin false .add (.r 0) (jc 1)), js 4 (.mov (.r 1))]))))))
  (.seq (jr [jn (.mov (.v 0)), jn (.mov (.v 3)), jn (.slice 3 (.r 0) (some (.r 1)) none), jn (.clr (.agg [(.int .i64 0), (.bool false), (.int .i64 0)]) (.r 2))])
  (.seq (jr [jn (.mov (.v 0)), jn (.mov (.v 3)), jn (.slice 3 (.r 0) none (some (.r 1))), js 2 (.mov (.r 2))])
  .ret)))))),
  [.v 2]⟩
def wd6 : IFun := ⟨[0, 1, 2, 3, 4, 7],
  (.seq (jr [js 2 (.box whm 2 (.v 0)), js 3 (.box whh 2 (.v 1)), js 4 (.nilrow whj true 3)])
  (.seq (.seq (jr [jn (.faddr 0 (.v 3)), jn (.load false 1 (.r 0)), js 5 (.bin false .neq (.r 1) (jc 1))])
  (.cond (.v 5) (.seq (jr [js 4 (.nilrow whj true 3)])
  .ret) .skip))
  (.seq (jr [jn (.load true 2 (.v 2)), jn (.call false w85 [(.r 0)]), jn (.mkfn w84 [(.v 2), (.v 3)]), jn (.callm w8v [(.r 1), (.r 2)]), js 4 (.mov (.r 3))])
  .ret))),
  [.v 4]⟩
def we5 : IFun := ⟨[0, 1, 3, 4, 5, 7, 8, 9, 16],
  (.seq (jr [js 2 (.box whj 3 (.v 1)), js 3 (.mov (jc 0))])
  (.seq (.seq (jr [jn (.mov (.v 0)), js 5 (.len false (.r 0)), js 6 (.mov (jc 0))])
  (.block 0 (.loop [true, false, true, false, false, true, true, false, false] (.seq (jr [js 7 (.bin false .lss (.v 6) (.v 5))])
  (.seq (.cond (.v 7) .skip (.exit 0))
  (.seq (.block 1 (.seq (jr [jn (.mov (.v 6)), js 4 (.mov (.r 0))])
  (.seq (.region true [] [jn (.load true 3 (.v 2)), jn (.mov (.v 0)), jn (.mov (.v 4)), jn (.iaddr 3 (.r 1) (.r 2)), jn (.load true 3 (.r 3)), js 8 (.eqs false [0, 1, 0] (.r 0) (.r 4))])
  (.cond (.v 8) (.seq (jr [jn (.mov (.v 4)), js 3 (.mov (.r 0))])
  .ret) .skip))))
  (jr [jn (.bin false .add (.v 6) (jc 1)), js 6 (.mov (.r 0))])))))))
  (.seq (jr [js 3 (.mov (jc (-1)))])
  .ret))),
  [.v 3]⟩
def wdv : IFun := ⟨[0, 1, 3, 4],
  (.seq (jr [js 2 (.box whj 3 (.v 1)), js 3 (.mov (.c (.bool false)))])
  (.seq (jr [jn (.mov (.v 0)), jn (.load true 3 (.v 2)), jn (.call false w93 [(.r 0), (.r 1)]), jn (.bin false .geq (.r 2) (jc 0)), js 3 (.mov (.r 3))])
  .ret)),
  [.v 3]⟩
def wcy : IFun := ⟨[0, 1, 2, 4, 5, 7, 9, 11, 15, 16, 17, 18, 29, 30, 31, 32, 40, 41, 42, 43],
  (.seq (jr [js 2 (.box whp 3 (.v 0)), js 3 (.nilrow t_int true 1)])
  (.seq (jr [jn (.mov (.v 1)), jn (.call false w8o [(.r 0)]), js 4 (.mov (.r 1))])
  (.seq (.seq (jr [jn (.faddr 0 (.v 2)), js 8 (.load false 1 (.r 0)), js 9 (.len false (.v 8)), js 10 (.mov (jc 0))])
  (.block 0 (.loop [false, false, true, false, true, false, false, false, true, true, true, false, false, false, false, false, false, false, false, false] (.seq (jr [js 11 (.bin false .lss (.v 10) (.v 9))])
  (.seq (.cond (.v 11) .skip (.exit 0))
  (.seq (.block 1 (.seq (jr [jn (.iaddr 1 (.v 8) (.v 10)), jn (.load false 1 (.r 0)), js 5 (.mov (.r 1))])
  (jr [jn (.mov (.v 4)), jn (.mov (.v 5)), jn (.iaddr 1 (.r 0) (.r 1)), jn (.load false 1 (.r 2)), jn (.bin false .sub (.r 3) (jc 1)), jn (.iaddr 1 (.r 0) (.r 1)), jn (.store 1 (.r 5) (.r 4))])))
  (jr [jn (.bin false .add (.v 10) (jc 1)), js 10 (.mov (.r 0))])))))))
  (.seq (.seq (jr [jn (.faddr 2 (.v 2)), js 12 (.load false 1 (.r 0)), js 13 (.len false (.v 12)), js 14 (.mov (jc 0))])
  (.block 2 (.loop [false, false, true, false, true, false, false, false, false, false, false, false, true, true, true, false, false, false, false, false] (.seq (jr [js 15 (.bin false .lss (.v 14) (.v 13))])
  (.seq (.cond (.v 15) .skip (.exit 2))
  (.seq (.block 3 (.seq (jr [jn (.iaddr 1 (.v 12) (.v 14)), jn (.load false 1 (.r 0)), js 6 (.mov (.r 1))])
  (jr [jn (.mov (.v 4)), jn (.mov (.v 6)), jn (.iaddr 1 (.r 0) (.r 1)), jn (.store 1 (.r 2) (jc 0))])))
  (jr [jn (.bin false .add (.v 14) (jc 1)), js 14 (.mov (.r 0))])))))))
  (.seq (.seq (jr [jn (.faddr 1 (.v 2)), js 16 (.load false 1 (.r 0)), js 17 (.len false (.v 16)), js 18 (.mov (jc 0))])
  (.block 4 (.loop [false, false, false, false, true, false, false, false, false, false, false, false, false, false, false, false, true, true, true, false] (.seq (jr [js 19 (.bin false .lss (.v 18) (.v 17))])
  (.seq (.cond (.v 19) .skip (.exit 4))
  (.seq (.block 5 (.seq (jr [jn (.iaddr 1 (.v 16) (.v 18)), jn (.load false 1 (.r 0)), js 7 (.mov (.r 1))])
  (jr [jn (.mov (.v 4)), jn (.mov (.v 7)), jn (.iaddr 1 (.r 0) (.r 1)), jn (.load false 1 (.r 2)), jn (.bin false .add (.r 3) (jc 1)), jn (.iaddr 1 (.r 0) (.r 1)), jn (.store 1 (.r 5) (.r 4))])))
  (jr [jn (.bin false .add (.v 18) (jc 1)), js 18 (.mov (.r 0))])))))))
  (.seq (jr [jn (.mov (.v 4)), js 3 (.mov (.r 0))])
  .ret)))))),
  [.v 3]⟩
def wct : IFun := ⟨[0, 2, 3, 6],
  (.seq (jr [js 1 (.nilrow t_int true 1), js 2 (.mov (.c (.bool false)))])
  (.seq (.seq (jr [jn (.mov (.v 0)), jn (.call false w7i [(.r 0), (jc 0), (jc 50)]), js 3 (.not (.r 1))])
  (.cond (.v 3) (.seq (jr [js 1 (.nilrow t_int true 1), js 2 (.mov (.c (.bool false)))])
  .ret) .skip))
  (.seq (jr [jn (.mov (.v 0)), js 1 (.mov (.r 0)), js 2 (.mov (.c (.bool true)))])
  .ret))),
  [.v 1, .v 2]⟩
def wdi : IFun := ⟨[0, 1, 2, 3, 4, 5, 6, 7, 8, 9, 15, 28, 33],
  (.seq (jr [js 3 (.box whm 2 (.v 0)), js 4 (.box whh 2 (.v 1)), js 5 (.box whj 3 (.v 2)), js 6 (.alloc whh [(.int .i64 0), (.nil true 1)]), js 7 (.mov (.c (.bool false)))])
  (.seq (.seq (.region true [(3, 2)] [jn (.load true 2 (.v 3)), jn (.load true 2 (.v 4)), jn (.load true 3 (.v 5)), jn (.call false w83 [(.r 0), (.r 1)]), jn (.call false w8t [(.r 3), (.r 2)]), js 10 (.not (.r 4))])
  (.cond (.v 10) (.seq (jr [jn (.build [(.int .i64 0), (.nil true 1)] []), jn (.store 2 (.v 6) (.r 0)), js 7 (.mov (.c (.bool false)))])
  .ret) .skip))
  (.seq (.region true [(4, 3)] [jn (.load true 2 (.v 3)), jn (.load true 3 (.v 5)), jn (.faddr 1 (.v 4)), jn (.load false 1 (.r 2)), jn (.call false w8h [(.r 0), (.r 1)]), jn (.call false w7v [(.r 4), (.r 3)]), jn (.callm w7q [(.r 5)]), jn (.mov (.r 6)), jn (.extract (.r 7) 0), jn (.extract (.r 7) 1), js 8 (.mov (.r 8)), js 9 (.mov (.r 9))])
  (.seq (.seq (jr [jn (.mov (.v 9)), js 11 (.not (.r 0))])
  (.cond (.v 11) (.seq (jr [jn (.build [(.int .i64 0), (.nil true 1)] []), jn (.store 2 (.v 6) (.r 0)), js 7 (.mov (.c (.bool false)))])
  .ret) .skip))
  (.seq (.seq (jr [jn (.mov (.v 8)), jn (.iaddr 1 (.r 0) (jc 1)), jn (.load false 1 (.r 1)), js 12 (.bin false .gtr (.r 2) (jc 0))])
  (.cond (.v 12) (.seq (jr [jn (.mov (.v 8)), jn (.build [(.int .i64 0), (.nil true 1)] [(0, 1, (jc 2)), (1, 1, (.r 0))]), jn (.store 2 (.v 6) (.r 1)), js 7 (.mov (.c (.bool true)))])
  .ret) .skip))
  (.seq (jr [jn (.mov (.v 8)), jn (.build [(.int .i64 0), (.nil true 1)] [(0, 1, (jc 1)), (1, 1, (.r 0))]), jn (.store 2 (.v 6) (.r 1)), js 7 (.mov (.c (.bool true)))])
  .ret)))))),
  [.cell true 2 6, .v 7]⟩
def wca : IFun := ⟨[0, 1, 2, 4, 5, 6, 7, 8, 9, 10, 11, 12, 20, 27, 28, 29, 30, 41],
  (.seq (jr [js 2 (.box whm 2 (.v 0)), js 3 (.alloc whh [(.int .i64 0), (.nil true 1)]), js 4 (.nilrow whf true 1), js 5 (.mov (.c (.bool false)))])
  (.seq (.seq (jr [jn (.load true 2 (.v 2)), jn (.call false w81 [(.r 0)]), jn (.not (.r 1)), jn (.mov (.r 2)), jf 3 (.mov (.v 1)), jf 3 (.len false (.r 4)), jf 3 (.bin false .gtr (.r 5) (jc 60)), js 12 (.pick (.r 3) (.c (.bool true)) (.r 6))])
  (.cond (.v 12) (.seq (jr [jn (.build [(.int .i64 0), (.nil true 1)] []), jn (.store 2 (.v 3) (.r 0)), js 4 (.nilrow whf true 1), js 5 (.mov (.c (.bool false)))])
  .ret) .skip))
  (.seq (jr [jn (.load true 2 (.v 2)), jn (.call false w86 [(.r 0)]), js 6 (.alloc whh [(.int .i64 0), (.nil true 1)]), jn (.store 2 (.v 6) (.r 1))])
  (.seq (jr [jn (.mov (.v 1)), jn (.len false (.r 0)), jn (.mk whf true 1 (.bool false) (.r 1)), js 7 (.mov (.r 2))])
  (.seq (.seq (jr [js 13 (.mov (.v 1)), js 14 (.len false (.v 13)), js 15 (.mov (jc 0))])
  (.block 0 (.loop [false, false, true, true, false, false, true, true, false, false, false, false, false, true, true, true, false, false] (.seq (jr [js 16 (.bin false .lss (.v 15) (.v 14))])
  (.seq (.cond (.v 16) .skip (.exit 0))
  (.seq (.block 1 (.seq (jr [jn (.mov (.v 15)), jn (.iaddr 3 (.v 13) (.v 15)), jn (.load true 3 (.r 1)), js 9 (.alloc whj [(.int .i64 0), (.bool false), (.int .i64 0)]), js 8 (.mov (.r 0)), jn (.store 3 (.v 9) (.r 2))])
  (.seq (jr [jn (.load true 2 (.v 2)), jn (.load true 2 (.v 6)), jn (.load true 3 (.v 9)), jn (.call false w8f [(.r 0), (.r 1), (.r 2)]), jn (.mov (.r 3)), jn (.extract (.r 4) 0), jn (.extract (.r 4) 1), js 10 (.alloc whh [(.int .i64 0), (.nil true 1)]), jn (.store 2 (.v 10) (.r 5)), js 11 (.mov (.r 6))])
  (.seq (jr [js 17 (.mov (.v 11))])
  (.cond (.v 17) (jr [jn (.mov (.v 7)), jn (.mov (.v 8)), jn (.load true 2 (.v 10)), jn (.store 2 (.v 6) (.r 2)), jn (.iaddr 1 (.r 0) (.r 1)), jn (.store 1 (.r 4) (.c (.bool true)))]) .skip)))))
  (jr [jn (.bin false .add (.v 15) (jc 1)), js 15 (.mov (.r 0))])))))))
  (.seq (jr [jn (.load true 2 (.v 6)), jn (.mov (.v 7)), jn (.store 2 (.v 3) (.r 0)), js 4 (.mov (.r 1)), js 5 (.mov (.c (.bool true)))])
  .ret)))))),
  [.cell true 2 3, .v 4, .v 5]⟩
def wep : IFun := ⟨[0, 1, 2],
  (.seq (jr [js 1 (.box whh 2 (.v 0)), js 2 (.alloc whh [(.int .i64 0), (.nil true 1)])])
  (.seq (.region true [(4, 1)] [jn (.faddr 0 (.v 1)), jn (.load false 1 (.r 0)), jn (.faddr 1 (.v 1)), jn (.load false 1 (.r 2)), jn (.call false wa1 [(.r 3)]), jn (.build [(.int .i64 0), (.nil true 1)] [(0, 1, (.r 1)), (1, 1, (.r 4))]), jn (.store 2 (.v 2) (.r 5))])
  .ret)),
  [.cell true 2 2]⟩
def wei : IFun := ⟨[0, 1, 2, 4, 5, 6, 7, 8, 9, 11, 12, 13, 25, 27, 28, 29, 30, 40],
  (.seq (jr [js 2 (.box whm 2 (.v 0)), js 3 (.alloc whh [(.int .i64 0), (.nil true 1)]), js 4 (.nilrow whf true 1), js 5 (.mov (.c (.bool false)))])
  (.seq (jr [jn (.load true 2 (.v 2)), jn (.call false w9e [(.r 0)]), jn (.mov (.r 1)), jn (.extract (.r 2) 0), jn (.extract (.r 2) 1), js 6 (.alloc whh [(.int .i64 0), (.nil true 1)]), jn (.store 2 (.v 6) (.r 3)), js 7 (.mov (.r 4))])
  (.seq (.seq (jr [jn (.mov (.v 7)), jn (.not (.r 0)), jn (.mov (.r 1)), jf 2 (.mov (.v 1)), jf 2 (.len false (.r 3)), jf 2 (.bin false .gtr (.r 4) (jc 60)), js 12 (.pick (.r 2) (.c (.bool true)) (.r 5))])
  (.cond (.v 12) (.seq (jr [jn (.build [(.int .i64 0), (.nil true 1)] []), jn (.store 2 (.v 3) (.r 0)), js 4 (.nilrow whf true 1), js 5 (.mov (.c (.bool false)))])
  .ret) .skip))
  (.seq (jr [js 8 (.nilrow whf true 1)])
  (.seq (.seq (jr [js 13 (.mov (.v 1)), js 14 (.len false (.v 13)), js 15 (.mov (jc 0))])
  (.block 0 (.loop [false, false, true, true, false, false, true, false, true, false, false, false, false, true, true, true, false, false] (.seq (jr [js 16 (.bin false .lss (.v 15) (.v 14))])
  (.seq (.cond (.v 16) .skip (.exit 0))
  (.seq (.block 1 (.seq (jr [jn (.iaddr 3 (.v 13) (.v 15)), jn (.load true 3 (.r 0)), js 9 (.alloc whj [(.int .i64 0), (.bool false), (.int .i64 0)]), jn (.store 3 (.v 9) (.r 1))])
  (.seq (jr [jn (.load true 2 (.v 2)), jn (.load true 2 (.v 6)), jn (.load true 3 (.v 9)), jn (.call false w9o [(.r 0), (.r 1), (.r 2)]), jn (.mov (.r 3)), jn (.extract (.r 4) 0), jn (.extract (.r 4) 1), js 10 (.alloc whh [(.int .i64 0), (.nil true 1)]), jn (.store 2 (.v 10) (.r 5)), js 11 (.mov (.r 6))])
  (.seq (.seq (jr [js 17 (.mov (.v 11))])
  (.cond (.v 17) (jr [jn (.load true 2 (.v 10)), jn (.store 2 (.v 6) (.r 0))]) .skip))
  (jr [jn (.mov (.v 8)), jn (.mov (.v 11)), jn (.bslice false whf true 1 [(.r 1)]), jn (.append whf true 1 (.r 0) (.r 2)), js 8 (.mov (.r 3))])))))
  (jr [jn (.bin false .add (.v 15) (jc 1)), js 15 (.mov (.r 0))])))))))
  (.seq (jr [jn (.load true 2 (.v 6)), jn (.call false w9n [(.r 0)]), jn (.mov (.v 8)), jn (.store 2 (.v 3) (.r 1)), js 4 (.mov (.r 2)), js 5 (.mov (.c (.bool true)))])
  .ret)))))),
  [.cell true 2 3, .v 4, .v 5]⟩
def wdo : IFun := ⟨[0, 1, 4, 5, 10, 12, 13, 14, 24],
  (.seq (jr [js 2 (.mov (.c (.bool false)))])
  (.seq (.seq (jr [jn (.mov (.v 0)), jn (.len false (.r 0)), jn (.mov (.v 1)), jn (.len false (.r 2)), js 4 (.bin false .neq (.r 1) (.r 3))])
  (.cond (.v 4) (.seq (jr [js 2 (.mov (.c (.bool false)))])
  .ret) .skip))
  (.seq (.seq (jr [jn (.mov (.v 0)), js 5 (.len false (.r 0)), js 6 (.mov (jc 0))])
  (.block 0 (.loop [true, true, false, false, false, true, true, false, false] (.seq (jr [js 7 (.bin false .lss (.v 6) (.v 5))])
  (.seq (.cond (.v 7) .skip (.exit 0))
  (.seq (.block 1 (.seq (jr [jn (.mov (.v 6)), js 3 (.mov (.r 0))])
  (.seq (.region true [] [jn (.mov (.v 0)), jn (.mov (.v 3)), jn (.iaddr 1 (.r 0) (.r 1)), jn (.load false 1 (.r 2)), jn (.mov (.v 1)), jn (.mov (.v 3)), jn (.iaddr 1 (.r 4) (.r 5)), jn (.load false 1 (.r 6)), js 8 (.bin true .neq (.r 3) (.r 7))])
  (.cond (.v 8) (.seq (jr [js 2 (.mov (.c (.bool false)))])
  .ret) .skip))))
  (jr [jn (.bin false .add (.v 6) (jc 1)), js 6 (.mov (.r 0))])))))))
  (.seq (jr [js 2 (.mov (.c (.bool true)))])
  .ret)))),
  [.v 2]⟩
def wdq : IFun := ⟨[0, 1, 4, 5, 10, 12, 13, 14, 24],
  (.seq (jr [js 2 (.mov (.c (.bool false)))])
  (.seq (.seq (jr [jn (.mov (.v 0)), jn (.len false (.r 0)), jn (.mov (.v 1)), jn (.len false (.r 2)), js 4 (.bin false .neq (.r 1) (.r 3))])
  (.cond (.v 4) (.seq (jr [js 2 (.mov (.c (.bool false)))])
  .ret) .skip))
  (.seq (.seq (jr [jn (.mov (.v 0)), js 5 (.len false (.r 0)), js 6 (.mov (jc 0))])
  (.block 0 (.loop [true, true, false, false, false, true, true, false, false] (.seq (jr [js 7 (.bin false .lss (.v 6) (.v 5))])
  (.seq (.cond (.v 7) .skip (.exit 0))
  (.seq (.block 1 (.seq (jr [jn (.mov (.v 6)), js 3 (.mov (.r 0))])
  (.seq (.region true [] [jn (.mov (.v 0)), jn (.mov (.v 3)), jn (.iaddr 1 (.r 0) (.r 1)), jn (.load false 1 (.r 2)), jn (.mov (.v 1)), jn (.mov (.v 3)), jn (.iaddr 1 (.r 4) (.r 5)), jn (.load false 1 (.r 6)), js 8 (.bin false .neq (.r 3) (.r 7))])
  (.cond (.v 8) (.seq (jr [js 2 (.mov (.c (.bool false)))])
  .ret) .skip))))
  (jr [jn (.bin false .add (.v 6) (jc 1)), js 6 (.mov (.r 0))])))))))
  (.seq (jr [js 2 (.mov (.c (.bool true)))])
  .ret)))),
  [.v 2]⟩
def wdp : IFun := ⟨[0, 1, 2, 3, 4],
  (.seq (jr [js 2 (.box whh 2 (.v 0)), js 3 (.box whh 2 (.v 1)), js 4 (.mov (.c (.bool false)))])
  (.seq (jr [jn (.faddr 0 (.v 2)), jn (.load false 1 (.r 0)), jn (.faddr 0 (.v 3)), jn (.load false 1 (.r 2)), jn (.bin false .eql (.r 1) (.r 3)), jn (.mov (.r 4)), jt 5 (.faddr 1 (.v 2)), jt 5 (.load false 1 (.r 6)), jt 5 (.faddr 1 (.v 3)), jt 5 (.load false 1 (.r 8)), jt 5 (.call false w8n [(.r 7), (.r 9)]), jn (.pick (.r 5) (.r 10) (.c (.bool false))), js 4 (.mov (.r 11))])
  .ret)),
  [.v 4]⟩
def wdh : IFun := ⟨[0, 1, 2],
  (.seq (jr [js 1 (.box whi 4 (.v 0)), js 2 (.nilrow t_int true 1)])
  (.seq (jr [jn (.faddr 0 (.v 1)), jn (.faddr 0 (.r 0)), jn (.load false 1 (.r 1)), jn (.faddr 2 (.v 1)), jn (.load false 1 (.r 3)), jn (.call false w8c [(.r 2), (.r 4)]), js 2 (.mov (.r 5))])
  .ret)),
  [.v 2]⟩
def wcv : IFun := ⟨[0, 1, 2, 4, 5, 6, 7, 9, 10, 11, 12, 18],
  (.seq (jr [js 2 (.box whk 2 (.v 0)), js 3 (.nilrow t_int true 1)])
  (.seq (jr [js 4 (.nilrow t_int true 1)])
  (.seq (.seq (jr [jn (.faddr 1 (.v 2)), js 7 (.load false 1 (.r 0)), js 8 (.len false (.v 7)), js 9 (.mov (jc 0))])
  (.block 0 (.loop [false, true, false, false, true, false, false, true, true, true, false, false] (.seq (jr [js 10 (.bin false .lss (.v 9) (.v 8))])
  (.seq (.cond (.v 10) .skip (.exit 0))
  (.seq (.block 1 (.seq (jr [jn (.mov (.v 9)), jn (.iaddr 3 (.v 7) (.v 9)), jn (.load true 3 (.r 1)), js 6 (.alloc whp [(.nil true 1), (.nil true 1), (.nil true 1)]), js 5 (.mov (.r 0)), jn (.store 3 (.v 6) (.r 2))])
  (.seq (jr [jn (.load true 3 (.v 6)), jn (.mov (.v 1)), js 11 (.call false w7y [(.r 0), (.r 1)])])
  (.cond (.v 11) (jr [jn (.mov (.v 4)), jn (.mov (.v 5)), jn (.bslice false t_int true 1 [(.r 1)]), jn (.append t_int true 1 (.r 0) (.r 2)), js 4 (.mov (.r 3))]) .skip))))
  (jr [jn (.bin false .add (.v 9) (jc 1)), js 9 (.mov (.r 0))])))))))
  (.seq (jr [jn (.mov (.v 4)), js 3 (.mov (.r 0))])
  .ret)))),
  [.v 3]⟩
def wdy : IFun := ⟨[0, 1, 4, 5, 10, 12, 13, 14, 24],
  (.seq (jr [js 2 (.mov (.c (.bool false)))])
  (.seq (.seq (jr [jn (.mov (.v 0)), jn (.len false (.r 0)), jn (.mov (.v 1)), jn (.len false (.r 2)), js 4 (.bin false .neq (.r 1) (.r 3))])
  (.cond (.v 4) (.seq (jr [js 2 (.mov (.c (.bool false)))])
  .ret) .skip))
  (.seq (.seq (jr [jn (.mov (.v 0)), js 5 (.len false (.r 0)), js 6 (.mov (jc 0))])
  (.block 0 (.loop [true, true, false, false, false, true, true, false, false] (.seq (jr [js 7 (.bin false .lss (.v 6) (.v 5))])
  (.seq (.cond (.v 7) .skip (.exit 0))
  (.seq (.block 1 (.seq (jr [jn (.mov (.v 6)), js 3 (.mov (.r 0))])
  (.seq (.region true [] [jn (.mov (.v 0)), jn (.mov (.v 3)), jn (.iaddr 1 (.r 0) (.r 1)), jn (.load false 1 (.r 2)), jn (.mov (.v 1)), jn (.mov (.v 3)), jn (.iaddr 1 (.r 4) (.r 5)), jn (.load false 1 (.r 6)), js 8 (.bin false .neq (.r 3) (.r 7))])
  (.cond (.v 8) (.seq (jr [js 2 (.mov (.c (.bool false)))])
  .ret) .skip))))
  (jr [jn (.bin false .add (.v 6) (jc 1)), js 6 (.mov (.r 0))])))))))
  (.seq (jr [js 2 (.mov (.c (.bool true)))])
  .ret)))),
  [.v 2]⟩
def wce : IFun := ⟨[0, 1, 3],
  (.seq (jr [js 2 (.mov (.c (.bool false)))])
  (.seq (jr [jn (.mov (.v 0)), jn (.load false 1 (.v 1)), jn (.call false w8w [(.r 0), (.r 1)]), js 2 (.mov (.r 2))])
  .ret)),
  [.v 2]⟩
def we3 : IFun := ⟨[0, 1, 4, 5, 7, 8, 9, 16],
  (.seq (jr [js 2 (.mov (jc 0))])
  (.seq (.seq (jr [jn (.mov (.v 0)), js 4 (.len false (.r 0)), js 5 (.mov (jc 0))])
  (.block 0 (.loop [true, true, false, false, true, true, false, false] (.seq (jr [js 6 (.bin false .lss (.v 5) (.v 4))])
  (.seq (.cond (.v 6) .skip (.exit 0))
  (.seq (.block 1 (.seq (jr [jn (.mov (.v 5)), js 3 (.mov (.r 0))])
  (.seq (jr [jn (.mov (.v 1)), jn (.mov (.v 0)), jn (.mov (.v 3)), jn (.iaddr 1 (.r 1) (.r 2)), jn (.load false 1 (.r 3)), js 7 (.callv false (.r 0) [(.r 4)])])
  (.cond (.v 7) (.seq (jr [jn (.mov (.v 3)), js 2 (.mov (.r 0))])
  .ret) .skip))))
  (jr [jn (.bin false .add (.v 5) (jc 1)), js 5 (.mov (.r 0))])))))))
  (.seq (jr [js 2 (.mov (jc (-1)))])
  .ret))),
  [.v 2]⟩
def wcd : IFun := ⟨[0, 1, 2, 3, 4],
  (.seq (jr [js 2 (.box whl 2 (.v 0)), js 3 (.box whs 1 (.v 1)), js 4 (.mov (jc 0))])
  (.seq (jr [jn (.faddr 0 (.v 2)), jn (.load false 1 (.r 0)), jn (.mkfn w7b [(.v 3)]), jn (.call false w91 [(.r 1), (.r 2)]), js 4 (.mov (.r 3))])
  .ret)),
  [.v 4]⟩
def wcx : IFun := ⟨[0, 1, 2, 3, 6, 7, 8, 9, 11, 12, 13, 22, 31, 32, 33, 34, 50, 56, 61],
  (.seq (jr [js 3 (.box whk 2 (.v 0)), js 4 (.alloc whl [(.nil false 1), (.nil true 3)]), js 5 (.mov (jc 0))])
  (.seq (jr [jn (.mov (.v 1)), jn (.call false w8o [(.r 0)]), jn (.bslice false whs false 1 [(.r 1)]), jn (.build [(.nil false 1), (.nil true 3)] [(0, 1, (.r 2))]), js 6 (.alloc whl [(.nil false 1), (.nil true 3)]), jn (.store 2 (.v 6) (.r 3))])
  (.seq (.seq (jr [js 7 (.mov (jc 0))])
  (.block 0 (.loop [false, false, true, true, true, false, true, true, false, false, false, false, false, false, false, false, false, false, false] (.seq (.seq (jr [jn (.mov (.v 7)), jn (.faddr 0 (.v 6)), jn (.load false 1 (.r 1)), jn (.len false (.r 2)), js 11 (.bin false .lss (.r 0) (.r 3))])
  (.cond (.v 11) .skip (.exit 0)))
  (.seq (.block 1 (.seq (.region true [] [jn (.load true 2 (.v 3)), jn (.faddr 0 (.v 6)), jn (.load false 1 (.r 1)), jn (.mov (.v 7)), jn (.iaddr 1 (.r 2) (.r 3)), jn (.load false 1 (.r 4)), js 14 (.mov (jc 0)), js 12 (.call false w7s [(.r 0), (.r 5)]), js 13 (.len false (.v 12))])
  (.block 2 (.loop [false, false, true, true, true, false, true, true, false, false, false, false, true, true, true, false, false, false, false] (.seq (jr [js 15 (.bin false .lss (.v 14) (.v 13))])
  (.seq (.cond (.v 15) .skip (.exit 2))
  (.seq (.block 3 (.seq (jr [jn (.iaddr 1 (.v 12) (.v 14)), jn (.load false 1 (.r 0)), js 8 (.mov (.r 1))])
  (.seq (.region true [] [jn (.faddr 1 (.v 3)), jn (.load false 1 (.r 0)), jn (.mov (.v 8)), jn (.iaddr 3 (.r 1) (.r 2)), jn (.load true 3 (.r 3)), jn (.faddr 0 (.v 6)), jn (.load false 1 (.r 5)), jn (.mov (.v 7)), jn (.iaddr 1 (.r 6) (.r 7)), jn (.load false 1 (.r 8)), jn (.call false w7v [(.r 4), (.r 9)]), js 9 (.mov (.r 10))])
  (.seq (.seq (jr [jn (.mov (.v 9)), jn (.call false w7i [(.r 0), (jc 0), (jc 50)]), js 16 (.not (.r 1))])
  (.cond (.v 16) (.seq (jr [jn (.build [(.nil false 1), (.nil true 3)] []), jn (.store 2 (.v 4) (.r 0)), js 5 (.mov (jc 3))])
  .ret) .skip))
  (.seq (jr [jn (.load true 2 (.v 6)), jn (.mov (.v 9)), jn (.call false w7a [(.r 0), (.r 1)]), js 10 (.mov (.r 2))])
  (.seq (.seq (jr [jn (.mov (.v 10)), js 17 (.bin false .lss (.r 0) (jc 0))])
  (.cond (.v 17) (.seq (.seq (jr [jn (.faddr 0 (.v 6)), jn (.load false 1 (.r 0)), jn (.len false (.r 1)), jn (.mov (.v 2)), js 18 (.bin false .geq (.r 2) (.r 3))])
  (.cond (.v 18) (.seq (jr [jn (.build [(.nil false 1), (.nil true 3)] []), jn (.store 2 (.v 4) (.r 0)), js 5 (.mov (jc 2))])
  .ret) .skip))
  (.seq (jr [jn (.faddr 0 (.v 6)), jn (.load false 1 (.r 0)), jn (.len false (.r 1)), js 10 (.mov (.r 2))])
  (jr [jn (.faddr 0 (.v 6)), jn (.load false 1 (.r 0)), jn (.mov (.v 9)), jn (.bslice false whs false 1 [(.r 2)]), jn (.append whs false 1 (.r 1) (.r 3)), jn (.faddr 0 (.v 6)), jn (.store 1 (.r 5) (.r 4))]))) .skip))
  (jr [jn (.faddr 1 (.v 6)), jn (.load false 1 (.r 0)), jn (.mov (.v 7)), jn (.mov (.v 8)), jn (.mov (.v 10)), jn (.build [(.int .i64 0), (.int .i64 0), (.int .i64 0)] [(0, 1, (.r 2)), (1, 1, (.r 3)), (2, 1, (.r 4))]), jn (.bslice false whg true 3 [(.r 5)]), jn (.append whg true 3 (.r 1) (.r 6)), jn (.faddr 1 (.v 6)), jn (.store 1 (.r 8) (.r 7))])))))))
  (jr [jn (.bin false .add (.v 14) (jc 1)), js 14 (.mov (.r 0))]))))))))
  (jr [jn (.mov (.v 7)), jn (.bin false .add (.r 0) (jc 1)), js 7 (.mov (.r 1))]))))))
  (.seq (jr [jn (.load true 2 (.v 6)), jn (.store 2 (.v 4) (.r 0)), js 5 (.mov (jc 1))])
  .ret)))),
  [.cell true 2 4, .v 5]⟩
def wcw : IFun := ⟨[0, 1, 2],
  (.seq (jr [js 1 (.box whi 4 (.v 0)), js 2 (.nilrow t_int true 1)])
  (.seq (jr [jn (.faddr 0 (.v 1)), jn (.faddr 0 (.r 0)), jn (.load false 1 (.r 1)), jn (.faddr 3 (.v 1)), jn (.load false 1 (.r 3)), jn (.call false w8c [(.r 2), (.r 4)]), js 2 (.mov (.r 5))])
  .ret)),
  [.v 2]⟩
def wcf : IFun := ⟨[0, 1, 2, 4, 5, 6, 8, 9, 11, 12, 14, 24, 25, 26, 27, 46, 47, 48, 49, 59, 68, 69, 70, 71, 78],
  (.seq (jr [js 2 (.box whl 2 (.v 0)), js 3 (.nilrow whf true 1)])
  (.seq (jr [jn (.faddr 0 (.v 2)), jn (.load false 1 (.r 0)), jn (.len false (.r 1)), jn (.mk whf true 1 (.bool false) (.r 2)), js 4 (.mov (.r 3))])
  (.seq (jr [jn (.faddr 0 (.v 2)), jn (.load false 1 (.r 0)), jn (.len false (.r 1)), jn (.mkl whs 1 (.nil true 1) (.r 2)), js 5 (.mov (.r 3))])
  (.seq (.seq (jr [jn (.faddr 1 (.v 2)), js 11 (.ldf (.r 0)), js 12 (.len false (.v 11)), js 13 (.mov (jc 0))])
  (.block 0 (.loop [false, true, false, false, true, true, false, false, false, false, false, true, true, true, false, false, false, false, false, false, false, false, false, false, false] (.seq (jr [js 14 (.bin false .lss (.v 13) (.v 12))])
  (.seq (.cond (.v 14) .skip (.exit 0))
  (.seq (.block 1 (.seq (jr [jn (.iaddr 3 (.v 11) (.v 13)), jn (.load true 3 (.r 0)), js 6 (.alloc whg [(.int .i64 0), (.int .i64 0), (.int .i64 0)]), jn (.stl 3 (.v 6) (.r 1))])
  (.region true [(10, 2), (10, 8), (11, 2)] [jn (.mov (.v 5)), jn (.faddr 2 (.v 6)), jn (.load false 1 (.r 1)), jn (.mov (.v 5)), jn (.faddr 2 (.v 6)), jn (.load false 1 (.r 4)), jn (.iaddr 1 (.r 3) (.r 5)), jn (.faddr 0 (.v 6)), jn (.load false 1 (.r 7)), jn (.bslice true t_int true 1 [(.r 8)]), jn (.ldt t_int (.r 6)), jn (.apq t_int 1 (.r 10) (.r 9)), jn (.iaddr 1 (.r 0) (.r 2)), jn (.stl 1 (.r 12) (.r 11))])))
  (jr [jn (.bin false .add (.v 13) (jc 1)), js 13 (.mov (.r 0))])))))))
  (.seq (jr [jn (.mov (.v 1)), jn (.call false w8o [(.r 0)]), js 7 (.mov (.r 1))])
  (.seq (.seq (jr [js 15 (.mov (.v 1)), js 16 (.len false (.v 15)), js 17 (.mov (jc 0))])
  (.block 2 (.loop [false, false, false, false, true, true, false, true, false, false, false, false, false, false, false, true, true, true, false, false, false, false, false, false, false] (.seq (jr [js 18 (.bin false .lss (.v 17) (.v 16))])
  (.seq (.cond (.v 18) .skip (.exit 2))
  (.seq (.block 3 (.seq (jr [jn (.iaddr 1 (.v 15) (.v 17)), jn (.load false 1 (.r 0)), js 8 (.mov (.r 1))])
  (jr [jn (.mov (.v 4)), jn (.mov (.v 8)), jn (.iaddr 1 (.r 0) (.r 1)), jn (.stl 1 (.r 2) (.c (.bool true)))])))
  (jr [jn (.bin false .add (.v 17) (jc 1)), js 17 (.mov (.r 0))])))))))
  (.seq (.seq (jr [js 9 (.mov (jc 0))])
  (.block 4 (.loop [false, false, false, false, true, true, false, true, false, true, false, false, false, false, false, false, false, false, false, false, false, false, false, false, false] (.seq (.seq (jr [jn (.mov (.v 9)), jn (.mov (.v 7)), jn (.len false (.r 1)), js 19 (.bin false .lss (.r 0) (.r 2))])
  (.cond (.v 19) .skip (.exit 4)))
  (.seq (.block 5 (.seq (jr [jn (.mov (.v 5)), jn (.mov (.v 7)), jn (.mov (.v 9)), jn (.iaddr 1 (.r 1) (.r 2)), jn (.load false 1 (.r 3)), jn (.iaddr 1 (.r 0) (.r 4)), js 20 (.ldf (.r 5)), js 21 (.len false (.v 20)), js 22 (.mov (jc 0))])
  (.block 6 (.loop [false, false, false, false, true, true, false, true, false, true, false, false, false, false, false, false, false, false, false, false, true, true, true, false, false] (.seq (jr [js 23 (.bin false .lss (.v 22) (.v 21))])
  (.seq (.cond (.v 23) .skip (.exit 6))
  (.seq (.block 7 (.seq (jr [jn (.iaddr 1 (.v 20) (.v 22)), jn (.load false 1 (.r 0)), js 10 (.mov (.r 1))])
  (.seq (jr [jn (.mov (.v 4)), jn (.mov (.v 10)), jn (.iaddr 1 (.r 0) (.r 1)), jn (.load false 1 (.r 2)), js 24 (.not (.r 3))])
  (.cond (.v 24) (.seq (jr [jn (.mov (.v 4)), jn (.mov (.v 10)), jn (.iaddr 1 (.r 0) (.r 1)), jn (.stl 1 (.r 2) (.c (.bool true)))])
  (jr [jn (.mov (.v 7)), jn (.mov (.v 10)), jn (.bslice false t_int true 1 [(.r 1)]), jn (.apq t_int 1 (.r 0) (.r 2)), js 7 (.mov (.r 3))])) .skip))))
  (jr [jn (.bin false .add (.v 22) (jc 1)), js 22 (.mov (.r 0))]))))))))
  (jr [jn (.mov (.v 9)), jn (.bin false .add (.r 0) (jc 1)), js 9 (.mov (.r 1))]))))))
  (.seq (jr [jn (.mov (.v 4)), js 3 (.mov (.r 0))])
  .ret)))))))),
  [.v 3]⟩
def we4 : IFun := ⟨[0, 1, 4, 5, 7, 8, 9, 16],
  (.seq (jr [js 2 (.mov (jc 0))])
  (.seq (.seq (jr [jn (.mov (.v 0)), js 4 (.len false (.r 0)), js 5 (.mov (jc 0))])
  (.block 0 (.loop [true, true, false, false, true, true, false, false] (.seq (jr [js 6 (.bin false .lss (.v 5) (.v 4))])
  (.seq (.cond (.v 6) .skip (.exit 0))
  (.seq (.block 1 (.seq (jr [jn (.mov (.v 5)), js 3 (.mov (.r 0))])
  (.seq (jr [jn (.mov (.v 1)), jn (.mov (.v 0)), jn (.mov (.v 3)), jn (.iaddr 1 (.r 1) (.r 2)), jn (.load false 1 (.r 3)), js 7 (.bin true .eql (.r 0) (.r 4))])
  (.cond (.v 7) (.seq (jr [jn (.mov (.v 3)), js 2 (.mov (.r 0))])
  .ret) .skip))))
  (jr [jn (.bin false .add (.v 5) (jc 1)), js 5 (.mov (.r 0))])))))))
  (.seq (jr [js 2 (.mov (jc (-1)))])
  .ret))),
  [.v 2]⟩
def wcu : IFun := ⟨[0, 1, 4, 5, 6, 7, 8, 9, 10, 19],
  (.seq (jr [js 2 (.mov (.c (.bool false)))])
  (.seq (.seq (jr [js 5 (.mov (.v 0)), js 6 (.len false (.v 5)), js 7 (.mov (jc 0))])
  (.block 0 (.loop [false, true, false, false, false, true, true, true, false, false] (.seq (jr [js 8 (.bin false .lss (.v 7) (.v 6))])
  (.seq (.cond (.v 8) .skip (.exit 0))
  (.seq (.block 1 (.seq (jr [jn (.mov (.v 7)), jn (.iaddr 1 (.v 5) (.v 7)), jn (.load false 1 (.r 1)), js 3 (.mov (.r 0)), js 4 (.mov (.r 2))])
  (.seq (jr [jn (.mov (.v 4)), jn (.mov (.v 1)), jn (.mov (.v 3)), jn (.iaddr 1 (.r 1) (.r 2)), jn (.load false 1 (.r 3)), js 9 (.bin false .lss (.r 0) (.r 4))])
  (.cond (.v 9) (.seq (jr [js 2 (.mov (.c (.bool false)))])
  .ret) .skip))))
  (jr [jn (.bin false .add (.v 7) (jc 1)), js 7 (.mov (.r 0))])))))))
  (.seq (jr [js 2 (.mov (.c (.bool true)))])
  .ret))),
  [.v 2]⟩
def wd3 : IFun := ⟨[0, 1, 4],
  (.seq (jr [js 2 (.mov (.c (.bool false)))])
  (.seq (jr [jn (.mov (.v 0)), jn (.mov (.v 1)), jn (.call false w7r [(.r 0), (.r 1)]), jn (.mov (.r 2)), jt 3 (.mov (.v 0)), jt 3 (.mov (.v 1)), jt 3 (.call false w8w [(.r 4), (.r 5)]), jt 3 (.not (.r 6)), jn (.pick (.r 3) (.r 7) (.c (.bool false))), js 2 (.mov (.r 8))])
  .ret)),
  [.v 2]⟩
def wcs : IFun := ⟨[0, 1, 3],
  (.seq (jr [js 2 (.mov (.c (.bool false)))])
  (.seq (jr [jn (.mov (.v 0)), jn (.load false 1 (.v 1)), jn (.call false w80 [(.r 0), (.r 1)]), js 2 (.mov (.r 2))])
  .ret)),
  [.v 2]⟩
def wch : IFun := ⟨[0, 1, 2, 3],
  (.seq (jr [js 2 (.box whg 3 (.v 0)), js 3 (.mov (.c (.bool false)))])
  (.seq (jr [jn (.faddr 2 (.v 2)), jn (.load false 1 (.r 0)), jn (.load false 1 (.v 1)), jn (.bin false .eql (.r 1) (.r 2)), js 3 (.mov (.r 3))])
  .ret)),
  [.v 3]⟩
def wdz : IFun := ⟨[0, 1, 4, 5, 7, 8, 9, 16],
  (.seq (jr [js 2 (.mov (jc 0))])
  (.seq (.seq (jr [jn (.mov (.v 0)), js 4 (.len false (.r 0)), js 5 (.mov (jc 0))])
  (.block 0 (.loop [true, true, false, false, true, true, false, false] (.seq (jr [js 6 (.bin false .lss (.v 5) (.v 4))])
  (.seq (.cond (.v 6) .skip (.exit 0))
  (.seq (.block 1 (.seq (jr [jn (.mov (.v 5)), js 3 (.mov (.r 0))])
  (.seq (jr [jn (.mov (.v 1)), jn (.mov (.v 0)), jn (.mov (.v 3)), jn (.iaddr 3 (.r 1) (.r 2)), jn (.load true 3 (.r 3)), js 7 (.callv false (.r 0) [(.r 4)])])
  (.cond (.v 7) (.seq (jr [jn (.mov (.v 3)), js 2 (.mov (.r 0))])
  .ret) .skip))))
  (jr [jn (.bin false .add (.v 5) (jc 1)), js 5 (.mov (.r 0))])))))))
  (.seq (jr [js 2 (.mov (jc (-1)))])
  .ret))),
  [.v 2]⟩
def we7 : IFun := ⟨[0, 2, 3, 9],
  (.seq (jr [jn (.mov (.v 0)), jn (.len false (.r 0)), jn (.bin false .sub (.r 1) (jc 1)), js 1 (.mov (jc 0)), js 2 (.mov (.r 2))])
  (.block 0 (.loop [true, true, true, false] (.seq (.seq (jr [jn (.mov (.v 1)), jn (.mov (.v 2)), js 3 (.bin false .lss (.r 0) (.r 1))])
  (.cond (.v 3) .skip (.exit 0)))
  (.seq (.block 1 (.region true [] [jn (.mov (.v 0)), jn (.mov (.v 1)), jn (.mov (.v 0)), jn (.mov (.v 2)), jn (.mov (.v 0)), jn (.mov (.v 2)), jn (.iaddr 1 (.r 4) (.r 5)), jn (.load false 1 (.r 6)), jn (.mov (.v 0)), jn (.mov (.v 1)), jn (.iaddr 1 (.r 8) (.r 9)), jn (.load false 1 (.r 10)), jn (.iaddr 1 (.r 0) (.r 1)), jn (.store 1 (.r 12) (.r 7)), jn (.iaddr 1 (.r 2) (.r 3)), jn (.store 1 (.r 14) (.r 11))]))
  (jr [jn (.mov (.v 1)), jn (.bin false .add (.r 0) (jc 1)), jn (.mov (.v 2)), jn (.bin false .sub (.r 2) (jc 1)), js 1 (.mov (.r 1)), js 2 (.mov (.r 3))])))))),
  []⟩
def wcg : IFun := ⟨[0, 1, 2, 4, 5, 6, 7, 8, 13, 15],
  (.seq (jr [js 2 (.box whl 2 (.v 0)), js 3 (.nilrow t_int true 1), js 4 (.mov (.c (.bool false)))])
  (.seq (jr [jn (.load true 2 (.v 2)), jn (.mov (.v 1)), jn (.call false w7a [(.r 0), (.r 1)]), js 5 (.alloc t_int [(.int .i64 0)]), jn (.store 1 (.v 5) (.r 2))])
  (.seq (.seq (jr [jn (.load false 1 (.v 5)), js 8 (.bin false .lss (.r 0) (jc 0))])
  (.cond (.v 8) (.seq (jr [js 3 (.nilrow t_int true 1), js 4 (.mov (.c (.bool false)))])
  .ret) .skip))
  (.seq (jr [js 6 (.nilrow t_int true 1)])
  (.seq (.block 0 (.loop [false, false, true, false, false, true, true, false, false, false] (.seq (.seq (jr [jn (.load false 1 (.v 5)), js 9 (.bin false .gtr (.r 0) (jc 0))])
  (.cond (.v 9) .skip (.exit 0)))
  (.block 1 (.seq (.region true [(6, 1)] [jn (.faddr 1 (.v 2)), jn (.load false 1 (.r 0)), jn (.faddr 1 (.v 2)), jn (.load false 1 (.r 2)), jn (.mkfn w7e [(.v 5)]), js 7 (.alloc whg [(.int .i64 0), (.int .i64 0), (.int .i64 0)]), jn (.call false w8x [(.r 3), (.r 4)]), jn (.iaddr 3 (.r 1) (.r 6)), jn (.load true 3 (.r 7)), jn (.store 3 (.v 7) (.r 8))])
  (.seq (jr [jn (.mov (.v 6)), jn (.faddr 1 (.v 7)), jn (.load false 1 (.r 1)), jn (.bslice false t_int true 1 [(.r 2)]), jn (.append t_int true 1 (.r 0) (.r 3)), js 6 (.mov (.r 4))])
  (jr [jn (.faddr 0 (.v 7)), jn (.load false 1 (.r 0)), jn (.store 1 (.v 5) (.r 1))])))))))
  (.seq (jr [jn (.mov (.v 6)), jn (.callm w95 [(.r 0)])])
  (.seq (jr [jn (.mov (.v 6)), js 3 (.mov (.r 0)), js 4 (.mov (.c (.bool true)))])
  .ret))))))),
  [.v 3, .v 4]⟩
def wcc : IFun := ⟨[0, 1, 2, 3],
  (.seq (jr [js 2 (.box whg 3 (.v 0)), js 3 (.mov (.c (.bool false)))])
  (.seq (jr [jn (.faddr 1 (.v 2)), jn (.load false 1 (.r 0)), jn (.load false 1 (.v 1)), jn (.bin false .eql (.r 1) (.r 2)), js 3 (.mov (.r 3))])
  .ret)),
  [.v 3]⟩
def wdr : IFun := ⟨[0, 1, 4],
  (.seq (jr [js 2 (.mov (.c (.bool false)))])
  (.seq (jr [jn (.mov (.v 0)), jn (.mov (.v 1)), jn (.call false w8x [(.r 0), (.r 1)]), jn (.bin false .geq (.r 2) (jc 0)), js 2 (.mov (.r 3))])
  .ret)),
  [.v 2]⟩
def wcb : IFun := ⟨[0, 1, 2, 3, 4, 5, 6, 9, 10, 11, 17],
  (.seq (jr [js 2 (.box whl 2 (.v 0)), js 3 (.box whk 2 (.v 1)), js 4 (.nilrow t_int true 1)])
  (.seq (jr [js 5 (.nilrow t_int true 1)])
  (.seq (.seq (jr [jn (.faddr 1 (.v 3)), jn (.load false 1 (.r 0)), js 7 (.len false (.r 1)), js 8 (.mov (jc 0))])
  (.block 0 (.loop [false, false, true, false, false, true, false, true, true, false, false] (.seq (jr [js 9 (.bin false .lss (.v 8) (.v 7))])
  (.seq (.cond (.v 9) .skip (.exit 0))
  (.seq (.block 1 (.seq (jr [jn (.mov (.v 8)), js 6 (.alloc t_int [(.int .i64 0)]), jn (.store 1 (.v 6) (.r 0))])
  (.seq (jr [jn (.faddr 1 (.v 2)), jn (.load false 1 (.r 0)), jn (.mkfn w79 [(.v 6)]), jn (.call false w8p [(.r 1), (.r 2)]), js 10 (.not (.r 3))])
  (.cond (.v 10) (jr [jn (.mov (.v 5)), jn (.load false 1 (.v 6)), jn (.bslice false t_int true 1 [(.r 1)]), jn (.append t_int true 1 (.r 0) (.r 2)), js 5 (.mov (.r 3))]) .skip))))
  (jr [jn (.bin false .add (.v 8) (jc 1)), js 8 (.mov (.r 0))])))))))
  (.seq (jr [jn (.mov (.v 5)), js 4 (.mov (.r 0))])
  .ret)))),
  [.v 4]⟩
def wcr : IFun := ⟨[0, 1, 2, 4, 5, 6, 7, 8, 9, 10, 11, 12, 13, 15, 26, 39, 47, 53, 66, 79],
  (.seq (jr [js 2 (.box whi 4 (.v 0)), js 3 (.alloc whq [(.int .i64 0), (.int .i64 0), (.nil true 1), (.int .i64 0)]), js 4 (.alloc whl [(.nil false 1), (.nil true 3)])])
  (.seq (.region true [(5, 1)] [jn (.faddr 0 (.v 2)), jn (.load true 2 (.r 0)), jn (.load true 4 (.v 2)), jn (.mov (.v 1)), js 5 (.alloc whl [(.nil false 1), (.nil true 3)]), jn (.call false w8e [(.r 2)]), jn (.call false w7u [(.r 1), (.r 5), (.r 3)]), jn (.mov (.r 6)), jn (.extract (.r 7) 0), jn (.extract (.r 7) 1), jn (.store 2 (.v 5) (.r 8)), js 6 (.mov (.r 9))])
  (.seq (.seq (jr [jn (.mov (.v 6)), js 14 (.bin false .neq (.r 0) (jc 1))])
  (.cond (.v 14) (.seq (.region true [(2, 1)] [jn (.build [(.int .i64 0), (.int .i64 0), (.nil true 1), (.int .i64 0)] [(0, 1, (jc 3))]), jn (.load true 2 (.v 5)), jn (.store 4 (.v 3) (.r 0)), jn (.store 2 (.v 4) (.r 1))])
  .ret) .skip))
  (.seq (jr [jn (.load true 4 (.v 2)), jn (.call false w7t [(.r 0)]), js 7 (.alloc whs [(.nil true 1)]), jn (.store 1 (.v 7) (.r 1))])
  (.seq (jr [jn (.faddr 0 (.v 5)), jn (.load false 1 (.r 0)), jn (.len false (.r 1)), jn (.mk whf true 1 (.bool false) (.r 2)), js 8 (.mov (.r 3))])
  (.seq (.seq (jr [jn (.load true 2 (.v 5)), jn (.load false 1 (.v 7)), jn (.call false w7a [(.r 0), (.r 1)]), js 9 (.mov (.r 2))])
  (.seq (jr [jn (.mov (.v 9)), js 15 (.bin false .geq (.r 0) (jc 0))])
  (.cond (.v 15) (jr [jn (.load true 2 (.v 5)), jn (.mov (.v 9)), jn (.bslice false t_int true 1 [(.r 1)]), jn (.call false w7c [(.r 0), (.r 2)]), js 8 (.mov (.r 3))]) .skip)))
  (.seq (jr [jn (.mov (.v 8)), jn (.call false w92 [(.r 0), (.c (.bool false))]), js 10 (.mov (jc 1)), js 11 (.mov (.r 1))])
  (.seq (.seq (jr [jn (.mov (.v 11)), js 16 (.bin false .lss (.r 0) (jc 0))])
  (.cond (.v 16) (jr [jn (.faddr 0 (.v 5)), jn (.load false 1 (.r 0)), jn (.mkfn w7p [(.v 7)]), jn (.call false w91 [(.r 1), (.r 2)]), js 10 (.mov (jc 2)), js 11 (.mov (.r 3))]) .skip))
  (.seq (.seq (jr [jn (.mov (.v 11)), js 17 (.bin false .geq (.r 0) (jc 0))])
  (.cond (.v 17) (.seq (.region true [] [jn (.load true 2 (.v 5)), jn (.faddr 0 (.v 5)), jn (.load false 1 (.r 1)), jn (.mov (.v 11)), jn (.iaddr 1 (.r 2) (.r 3)), jn (.load false 1 (.r 4)), jn (.call false w7d [(.r 0), (.r 5)]), jn (.mov (.r 6)), jn (.extract (.r 7) 0), jn (.extract (.r 7) 1), js 12 (.mov (.r 8)), jn (.mov (.r 9))])
  (.seq (.seq (jr [jn (.mov (.v 12)), jn (.len false (.r 0)), js 18 (.bin false .gtr (.r 1) (jc 60))])
  (.cond (.v 18) (.seq (.region true [(2, 1)] [jn (.build [(.int .i64 0), (.int .i64 0), (.nil true 1), (.int .i64 0)] [(0, 1, (jc 3))]), jn (.load true 2 (.v 5)), jn (.store 4 (.v 3) (.r 0)), jn (.store 2 (.v 4) (.r 1))])
  .ret) .skip))
  (.seq (.region true [(4, 3)] [jn (.mov (.v 10)), jn (.mov (.v 12)), jn (.build [(.int .i64 0), (.int .i64 0), (.nil true 1), (.int .i64 0)] [(0, 1, (jc 2)), (1, 1, (.r 0)), (2, 1, (.r 1))]), jn (.load true 2 (.v 5)), jn (.store 4 (.v 3) (.r 2)), jn (.store 2 (.v 4) (.r 3))])
  .ret))) .skip))
  (.seq (.seq (jr [jn (.load true 2 (.v 5)), jn (.faddr 0 (.v 2)), jn (.load true 2 (.r 1)), jn (.call false w78 [(.r 0), (.r 2)]), js 13 (.mov (.r 3))])
  (.seq (jr [jn (.mov (.v 13)), jn (.len false (.r 0)), js 19 (.bin false .gtr (.r 1) (jc 0))])
  (.cond (.v 19) (.seq (.region true [(5, 4)] [jn (.mov (.v 13)), jn (.iaddr 1 (.r 0) (jc 0)), jn (.load false 1 (.r 1)), jn (.build [(.int .i64 0), (.int .i64 0), (.nil true 1), (.int .i64 0)] [(0, 1, (jc 2)), (1, 1, (jc 3)), (3, 1, (.r 2))]), jn (.load true 2 (.v 5)), jn (.store 4 (.v 3) (.r 3)), jn (.store 2 (.v 4) (.r 4))])
  .ret) .skip)))
  (.seq (.region true [(2, 1)] [jn (.build [(.int .i64 0), (.int .i64 0), (.nil true 1), (.int .i64 0)] [(0, 1, (jc 1))]), jn (.load true 2 (.v 5)), jn (.store 4 (.v 3) (.r 0)), jn (.store 2 (.v 4) (.r 1))])
  .ret))))))))))),
  [.cell true 4 3, .cell true 2 4]⟩
def wdu : IFun := ⟨[0, 1, 4],
  (.seq (jr [js 2 (.mov (.c (.bool false)))])
  (.seq (jr [jn (.mov (.v 0)), jn (.mov (.v 1)), jn (.call false w91 [(.r 0), (.r 1)]), jn (.bin false .geq (.r 2) (jc 0)), js 2 (.mov (.r 3))])
  .ret)),
  [.v 2]⟩
def wck : IFun := ⟨[0, 2],
  (.seq (jr [js 1 (.mov (.c (.bool false)))])
  (.seq (jr [jn (.mov (.v 0)), jn (.call false w7i [(.r 0), (jc 0), (jc 1)]), jn (.not (.r 1)), js 1 (.mov (.r 2))])
  .ret)),
  [.v 1]⟩
def wcj : IFun := ⟨[0, 1, 2, 4, 5, 6, 7, 15, 20],
  (.seq (jr [js 2 (.box whm 2 (.v 0)), js 3 (.mov (jc 0)), js 4 (.alloc whq [(.int .i64 0), (.int .i64 0), (.nil true 1), (.int .i64 0)])])
  (.seq (jr [jn (.load true 2 (.v 2)), jn (.call false w8d [(.r 0)]), jn (.mov (.v 1)), jn (.call false w7o [(.r 1), (.r 2)]), jn (.mov (.r 3)), jn (.extract (.r 4) 0), jn (.extract (.r 4) 1), js 5 (.alloc whq [(.int .i64 0), (.int .i64 0), (.nil true 1), (.int .i64 0)]), js 6 (.alloc whl [(.nil false 1), (.nil true 3)]), jn (.store 4 (.v 5) (.r 5)), jn (.store 2 (.v 6) (.r 6))])
  (.seq (.block 0 (.seq (jr [jn (.faddr 0 (.v 5)), jn (.load false 1 (.r 0)), jn (.bin false .neq (.r 1) (jc 1)), js 7 (.mov (.r 2))])
  (.cond (.v 7) (.seq (.region true [] [jn (.load true 4 (.v 5)), js 3 (.mov (jc 1)), jn (.store 4 (.v 4) (.r 0))])
  .ret) (.seq (jr [jn (.faddr 0 (.v 6)), jn (.load false 1 (.r 0)), jn (.call false w8s [(.r 1), (.c (.clo w7h []))]), js 8 (.mov (.r 2))])
  (.cond (.v 8) (.seq (.region true [] [jn (.load true 4 (.v 5)), js 3 (.mov (jc 2)), jn (.store 4 (.v 4) (.r 0))])
  .ret) .skip)))))
  (.seq (.region true [] [jn (.load true 4 (.v 5)), js 3 (.mov (jc 0)), jn (.store 4 (.v 4) (.r 0))])
  .ret)))),
  [.v 3, .cell true 4 4]⟩
def wc2 : IFun := ⟨[0, 1, 2, 4, 5, 6, 7, 8, 16],
  (.seq (jr [js 2 (.box whm 2 (.v 0)), js 3 (.mov (jc 0)), js 4 (.alloc whq [(.int .i64 0), (.int .i64 0), (.nil true 1), (.int .i64 0)]), js 5 (.mov (.c (.bool false)))])
  (.seq (.seq (jr [jn (.load true 2 (.v 2)), jn (.call false w81 [(.r 0)]), jn (.not (.r 1)), jn (.mov (.r 2)), jf 3 (.mov (.v 1)), jf 3 (.call false w8i [(.r 4), (jc 1), (jc 400)]), jf 3 (.not (.r 5)), js 8 (.pick (.r 3) (.c (.bool true)) (.r 6))])
  (.cond (.v 8) (.seq (jr [jn (.build [(.int .i64 0), (.int .i64 0), (.nil true 1), (.int .i64 0)] []), js 3 (.mov (jc 0)), jn (.store 4 (.v 4) (.r 0)), js 5 (.mov (.c (.bool false)))])
  .ret) .skip))
  (.seq (jr [jn (.load true 2 (.v 2)), jn (.mov (.v 1)), jn (.call false w7g [(.r 0), (.r 1)]), jn (.mov (.r 2)), jn (.extract (.r 3) 0), jn (.extract (.r 3) 1), js 7 (.alloc whq [(.int .i64 0), (.int .i64 0), (.nil true 1), (.int .i64 0)]), js 6 (.mov (.r 4)), jn (.store 4 (.v 7) (.r 5))])
  (.seq (.region true [] [jn (.mov (.v 6)), jn (.load true 4 (.v 7)), js 3 (.mov (.r 0)), jn (.store 4 (.v 4) (.r 1)), js 5 (.mov (.c (.bool true)))])
  .ret)))),
  [.v 3, .cell true 4 4, .v 5]⟩
def wc5 : IFun := ⟨[0, 1, 4],
  (.seq (jr [js 2 (.mov (.c (.bool false)))])
  (.seq (jr [jn (.mov (.v 0)), jn (.call false w8i [(.r 0), (jc 1), (jc 16)]), jn (.mov (.r 1)), jt 2 (.mov (.v 1)), jt 2 (.len false (.r 3)), jt 2 (.mov (.v 0)), jt 2 (.bin false .eql (.r 4) (.r 5)), jn (.pick (.r 2) (.r 6) (.c (.bool false))), jn (.mov (.r 7)), jt 8 (.mov (.v 1)), jt 8 (.call false w7i [(.r 9), (jc 0), (jc 50)]), jn (.pick (.r 8) (.r 10) (.c (.bool false))), js 2 (.mov (.r 11))])
  .ret)),
  [.v 2]⟩
def wd0 : IFun := ⟨[0, 1, 2, 3, 4, 14, 16, 17, 24],
  (.seq (jr [js 2 (.box whm 2 (.v 0)), js 3 (.box whh 2 (.v 1)), js 4 (.mov (.c (.bool false)))])
  (.seq (.seq (jr [jn (.faddr 0 (.v 2)), jn (.load false 1 (.r 0)), jn (.faddr 1 (.v 2)), jn (.load false 1 (.r 2)), jn (.len false (.r 3)), jn (.bin false .add (.r 1) (.r 4)), jn (.faddr 1 (.v 3)), jn (.load false 1 (.r 6)), jn (.call false w72 [(.r 5), (.r 7)]), js 5 (.not (.r 8))])
  (.cond (.v 5) (.seq (jr [js 4 (.mov (.c (.bool false)))])
  .ret) .skip))
  (.seq (.seq (jr [jn (.faddr 0 (.v 3)), js 6 (.load false 1 (.r 0))])
  (.block 0 (.seq (jr [jn (.bin false .eql (.v 6) (jc 1)), js 7 (.mov (.r 0))])
  (.cond (.v 7) (.seq (jr [jn (.faddr 1 (.v 3)), jn (.load false 1 (.r 0)), jn (.iaddr 1 (.r 1) (jc 1)), jn (.load false 1 (.r 2)), jn (.bin false .eql (.r 3) (jc 0)), js 4 (.mov (.r 4))])
  .ret) (.seq (jr [jn (.bin false .eql (.v 6) (jc 2)), js 8 (.mov (.r 0))])
  (.cond (.v 8) (.seq (jr [jn (.faddr 1 (.v 3)), jn (.load false 1 (.r 0)), jn (.iaddr 1 (.r 1) (jc 1)), jn (.load false 1 (.r 2)), jn (.bin false .gtr (.r 3) (jc 0)), js 4 (.mov (.r 4))])
  .ret) .skip))))))
  (.seq (jr [jn (.faddr 0 (.v 3)), jn (.load false 1 (.r 0)), jn (.bin false .eql (.r 1) (jc 3)), js 4 (.mov (.r 2))])
  .ret)))),
  [.v 4]⟩
def wc8 : IFun := ⟨[0, 1, 2, 3, 4, 5, 14],
  (.seq (jr [js 2 (.box whm 2 (.v 0)), js 3 (.box whh 2 (.v 1)), js 4 (.nilrow whj true 3), js 5 (.mov (.c (.bool false)))])
  (.seq (.seq (jr [jn (.load true 2 (.v 2)), jn (.call false w81 [(.r 0)]), jn (.not (.r 1)), jn (.mov (.r 2)), jf 3 (.load true 2 (.v 2)), jf 3 (.load true 2 (.v 3)), jf 3 (.call false w7x [(.r 4), (.r 5)]), jf 3 (.not (.r 6)), js 6 (.pick (.r 3) (.c (.bool true)) (.r 7))])
  (.cond (.v 6) (.seq (jr [js 4 (.nilrow whj true 3), js 5 (.mov (.c (.bool false)))])
  .ret) .skip))
  (.seq (jr [jn (.load true 2 (.v 2)), jn (.load true 2 (.v 3)), jn (.call false w83 [(.r 0), (.r 1)]), js 4 (.mov (.r 2)), js 5 (.mov (.c (.bool true)))])
  .ret))),
  [.v 4, .v 5]⟩
def wco : IFun := ⟨[0, 1, 3],
  (.seq (jr [js 2 (.mov (.c (.bool false)))])
  (.seq (jr [jn (.load false 1 (.v 1)), jn (.mov (.v 0)), jn (.call false w72 [(.r 0), (.r 1)]), jn (.not (.r 2)), js 2 (.mov (.r 3))])
  .ret)),
  [.v 2]⟩
def wcn : IFun := ⟨[0, 1, 2, 4],
  (.seq (jr [js 2 (.box t_int 1 (.v 0)), js 3 (.mov (.c (.bool false)))])
  (.seq (jr [jn (.mov (.v 1)), jn (.mkfn w7l [(.v 2)]), jn (.call false w8s [(.r 0), (.r 1)]), jn (.not (.r 2)), js 3 (.mov (.r 3))])
  .ret)),
  [.v 3]⟩
def wdj : IFun := ⟨[0, 2, 3, 5, 6, 7, 8, 9],
  (.seq (jr [js 1 (.mov (jc 0))])
  (.seq (jr [js 2 (.mov (jc 0))])
  (.seq (.seq (jr [js 4 (.mov (.v 0)), js 5 (.len false (.v 4)), js 6 (.mov (jc 0))])
  (.block 0 (.loop [false, false, true, false, true, true, true, false] (.seq (jr [js 7 (.bin false .lss (.v 6) (.v 5))])
  (.seq (.cond (.v 7) .skip (.exit 0))
  (.seq (.block 1 (.seq (jr [jn (.iaddr 1 (.v 4) (.v 6)), jn (.load false 1 (.r 0)), js 3 (.mov (.r 1))])
  (jr [jn (.mov (.v 2)), jn (.mov (.v 3)), jn (.bin false .add (.r 0) (.r 1)), js 2 (.mov (.r 2))])))
  (jr [jn (.bin false .add (.v 6) (jc 1)), js 6 (.mov (.r 0))])))))))
  (.seq (jr [jn (.mov (.v 2)), js 1 (.mov (.r 0))])
  .ret)))),
  [.v 1]⟩
def wci : IFun := ⟨[0, 1, 4, 5, 10],
  (.seq (jr [js 2 (.mov (jc 0)), js 3 (.mov (.c (.bool false)))])
  (.seq (.seq (jr [jn (.mov (.v 0)), jn (.mov (.v 1)), jn (.bslice false whs false 1 [(.r 1)]), jn (.call false w7k [(.r 0), (.r 2)]), js 4 (.not (.r 3))])
  (.cond (.v 4) (.seq (jr [js 2 (.mov (jc 0)), js 3 (.mov (.c (.bool false)))])
  .ret) .skip))
  (.seq (jr [jn (.mov (.v 1)), jn (.call false w8g [(.r 0)]), js 2 (.mov (.r 1)), js 3 (.mov (.c (.bool true)))])
  .ret))),
  [.v 2, .v 3]⟩
def wc3 : IFun := ⟨[0, 1, 2, 3, 4],
  (.seq (jr [js 2 (.box whm 2 (.v 0)), js 3 (.box whh 2 (.v 1)), js 4 (.mov (.c (.bool false)))])
  (.seq (jr [jn (.load true 2 (.v 2)), jn (.call false w81 [(.r 0)]), jn (.mov (.r 1)), jt 2 (.load true 2 (.v 2)), jt 2 (.load true 2 (.v 3)), jt 2 (.call false w7x [(.r 3), (.r 4)]), jn (.pick (.r 2) (.r 5) (.c (.bool false))), js 4 (.mov (.r 6))])
  .ret)),
  [.v 4]⟩
def we8 : IFun := ⟨[0, 2, 3],
  (.seq (jr [js 1 (.alloc whm [(.int .i64 0), (.nil false 7)])])
  (.seq (jr [jn (.mov (.v 0)), jn (.build [(.nil true 1), (.int .i64 0), (.int .u64 0)] [(0, 1, (.r 0))]), jn (.box wht 3 (.r 1)), js 2 (.mov (.r 2))])
  (.seq (jr [jn (.mov (.v 2)), jn (.callm w9x [(.r 0)]), jn (.store 2 (.v 1) (.r 1))])
  .ret))),
  [.cell true 2 1]⟩
def we9 : IFun := ⟨[0, 2],
  (.seq (jr [js 1 (.alloc whm [(.int .i64 0), (.nil false 7)])])
  (.seq (jr [jn (.mov (.v 0)), jn (.call false w96 [(.r 0)]), jn (.store 2 (.v 1) (.r 1))])
  .ret)),
  [.cell true 2 1]⟩
def wc9 : IFun := ⟨[0, 1, 2, 3, 6],
  (.seq (jr [js 1 (.box whm 2 (.v 0)), js 2 (.alloc whh [(.int .i64 0), (.nil true 1)]), js 3 (.mov (.c (.bool false)))])
  (.seq (.seq (jr [jn (.load true 2 (.v 1)), jn (.call false w81 [(.r 0)]), js 4 (.not (.r 1))])
  (.cond (.v 4) (.seq (jr [jn (.build [(.int .i64 0), (.nil true 1)] []), jn (.store 2 (.v 2) (.r 0)), js 3 (.mov (.c (.bool false)))])
  .ret) .skip))
  (.seq (jr [jn (.load true 2 (.v 1)), jn (.call false w86 [(.r 0)]), jn (.store 2 (.v 2) (.r 1)), js 3 (.mov (.c (.bool true)))])
  .ret))),
  [.cell true 2 2, .v 3]⟩
def wdm : IFun := ⟨[0, 1, 4, 5, 6, 7, 8, 9, 10, 11, 12, 13, 15, 16, 17, 18, 19, 20, 21, 22, 23, 24, 27, 61, 62, 99, 120, 128],
  (.seq (jr [js 2 (.mov (.c (.bool false)))])
  (.seq (.seq (jr [jn (.mov (.v 0)), jn (.mov (.v 1)), js 22 (.call false w8k [(.r 0), (.r 1)])])
  (.cond (.v 22) (.seq (jr [js 2 (.mov (.c (.bool true)))])
  .ret) .skip))
  (.seq (jr [jn (.mov (.v 0)), jn (.call false w98 [(.r 0)]), jn (.mov (.r 1)), jn (.extract (.r 2) 0), jn (.extract (.r 2) 1), js 3 (.alloc whm [(.int .i64 0), (.nil false 7)]), jn (.store 2 (.v 3) (.r 3)), js 4 (.mov (.r 4))])
  (.seq (jr [jn (.load true 2 (.v 3)), jn (.mov (.v 4)), jn (.call false w77 [(.r 0), (.r 1)]), jn (.mov (.r 2)), jn (.extract (.r 3) 0), jn (.extract (.r 3) 1), jn (.extract (.r 3) 2), js 5 (.alloc whh [(.int .i64 0), (.nil true 1)]), jn (.store 2 (.v 5) (.r 4)), js 6 (.mov (.r 5)), js 7 (.mov (.r 6))])
  (.seq (jr [jn (.load true 2 (.v 3)), jn (.mov (.v 4)), jn (.call false w9g [(.r 0), (.r 1)]), jn (.mov (.r 2)), jn (.extract (.r 3) 0), jn (.extract (.r 3) 1), jn (.extract (.r 3) 2), js 8 (.alloc whh [(.int .i64 0), (.nil true 1)]), jn (.store 2 (.v 8) (.r 4)), js 9 (.mov (.r 5)), js 10 (.mov (.r 6))])
  (.seq (.seq (jr [jn (.mov (.v 7)), jn (.mov (.v 10)), jn (.bin true .neq (.r 0) (.r 1)), jn (.mov (.r 2)), jf 3 (.mov (.v 6)), jf 3 (.mov (.v 9)), jf 3 (.call false w8l [(.r 4), (.r 5)]), jf 3 (.not (.r 6)), jn (.pick (.r 3) (.c (.bool true)) (.r 7)), jn (.mov (.r 8)), jf 9 (.load true 2 (.v 5)), jf 9 (.load true 2 (.v 8)), jf 9 (.call false w8m [(.r 10), (.r 11)]), jf 9 (.not (.r 12)), js 23 (.pick (.r 9) (.c (.bool true)) (.r 13))])
  (.cond (.v 23) (.seq (jr [js 2 (.mov (.c (.bool false)))])
  .ret) .skip))
  (.seq (.seq (jr [js 24 (.mov (.v 7))])
  (.cond (.v 24) (.seq (jr [jn (.load true 2 (.v 3)), jn (.call false w6z [(.r 0), (jc 400)]), jn (.mov (.r 1)), jn (.extract (.r 2) 0), jn (.extract (.r 2) 1), jn (.extract (.r 2) 2), jn (.alloc whq [(.int .i64 0), (.int .i64 0), (.nil true 1), (.int .i64 0)]), js 11 (.mov (.r 3)), jn (.store 4 (.r 6) (.r 4)), js 12 (.mov (.r 5))])
  (.seq (jr [jn (.load true 2 (.v 3)), jn (.load true 2 (.v 5)), jn (.call false w75 [(.r 0), (.r 1)]), jn (.mov (.r 2)), jn (.extract (.r 3) 0), jn (.extract (.r 3) 1), js 13 (.mov (.r 4)), js 14 (.mov (.r 5))])
  (.seq (jr [jn (.faddr 1 (.v 5)), jn (.load false 1 (.r 0)), jn (.len false (.r 1)), jn (.faddr 1 (.v 5)), jn (.load false 1 (.r 3)), jn (.call false w7f [(.r 2), (.r 4)]), jn (.mov (.r 5)), jn (.extract (.r 6) 0), jn (.extract (.r 6) 1), js 15 (.mov (.r 7)), js 16 (.mov (.r 8))])
  (.seq (.seq (jr [jn (.mov (.v 12)), jn (.not (.r 0)), jn (.mov (.r 1)), jf 2 (.mov (.v 14)), jf 2 (.not (.r 3)), jn (.pick (.r 2) (.c (.bool true)) (.r 4)), jn (.mov (.r 5)), jf 6 (.mov (.v 16)), jf 6 (.not (.r 7)), jn (.pick (.r 6) (.c (.bool true)) (.r 8)), jn (.mov (.r 9)), jf 10 (.load true 2 (.v 3)), jf 10 (.load true 2 (.v 5)), jf 10 (.call false w70 [(.r 11), (.r 12)]), jf 10 (.not (.r 13)), js 25 (.pick (.r 10) (.c (.bool true)) (.r 14))])
  (.cond (.v 25) (.seq (jr [js 2 (.mov (.c (.bool false)))])
  .ret) .skip))
  (.seq (.seq (jr [jn (.mov (.v 11)), jn (.bin false .eql (.r 0) (jc 0)), jn (.mov (.r 1)), jt 2 (.faddr 0 (.v 5)), jt 2 (.load false 1 (.r 3)), jt 2 (.bin false .eql (.r 4) (jc 1)), jt 2 (.mov (.r 5)), jt 6 (.mov (.v 13)), jt 6 (.len false (.r 7)), jt 6 (.bin false .eql (.r 8) (jc 0)), jt 2 (.pick (.r 6) (.r 9) (.c (.bool false))), jt 2 (.mov (.r 10)), jf 11 (.faddr 0 (.v 5)), jf 11 (.load false 1 (.r 12)), jf 11 (.bin false .eql (.r 13) (jc 2)), jf 11 (.mov (.r 14)), jt 15 (.mov (.v 15)), jt 15 (.bin false .neq (.r 16) (jc 1)), jf 11 (.pick (.r 15) (.r 17) (.c (.bool false))), jt 2 (.pick (.r 11) (.c (.bool true)) (.r 18)), js 26 (.pick (.r 2) (.r 19) (.c (.bool false)))])
  (.cond (.v 26) (.seq (jr [js 2 (.mov (.c (.bool false)))])
  .ret) .skip))
  (.seq (jr [jn (.faddr 0 (.v 5)), jn (.load false 1 (.r 0)), jn (.bin false .neq (.r 1) (jc 1)), jn (.mov (.r 2)), jt 3 (.mov (.v 13)), jt 3 (.len false (.r 4)), jt 3 (.bin false .gtr (.r 5) (jc 0)), js 27 (.pick (.r 3) (.r 6) (.c (.bool false)))])
  (.cond (.v 27) (.seq (jr [js 2 (.mov (.c (.bool false)))])
  .ret) .skip))))))) .skip))
  (.seq (jr [jn (.mov (.v 1)), jn (.call false w97 [(.r 0)]), js 17 (.alloc whm [(.int .i64 0), (.nil false 7)]), jn (.store 2 (.v 17) (.r 1))])
  (.seq (jr [jn (.load true 2 (.v 17)), jn (.call false w76 [(.r 0)]), jn (.mov (.r 1)), jn (.extract (.r 2) 0), jn (.extract (.r 2) 1), js 18 (.alloc whh [(.int .i64 0), (.nil true 1)]), jn (.store 2 (.v 18) (.r 3)), js 19 (.mov (.r 4))])
  (.seq (jr [jn (.load true 2 (.v 17)), jn (.call false w9e [(.r 0)]), jn (.mov (.r 1)), jn (.extract (.r 2) 0), jn (.extract (.r 2) 1), js 20 (.alloc whh [(.int .i64 0), (.nil true 1)]), jn (.store 2 (.v 20) (.r 3)), js 21 (.mov (.r 4))])
  (.seq (jr [jn (.mov (.v 19)), jn (.mov (.v 21)), jn (.bin true .eql (.r 0) (.r 1)), jn (.mov (.r 2)), jt 3 (.load true 2 (.v 18)), jt 3 (.load true 2 (.v 20)), jt 3 (.call false w8m [(.r 4), (.r 5)]), jn (.pick (.r 3) (.r 6) (.c (.bool false))), js 2 (.mov (.r 7))])
  .ret))))))))))),
  [.v 2]⟩
def tbl : List (FuncId × IFun) := [(w8k, wdn), (w9s, weu), (w9u, wew), (w9y, wf2), (w9w, wey), (wa3, wf7), (w9v, wex), (w9t, wev), (w9q, wes), (w9x, wez), (wa0, wf4), (w9z, wf3), (wa4, wf8), (w9l, wen), (wa1, wf5), (wa5, wf9), (w9k, wem), (w9j, wel), (w9h, wej), (wa2, wf6), (w9c, wee), (wac, wfg), (waa, wfe), (wab, wff), (w9f, weh), (w9a, wec), (w9d, wef), (wad, wfh), (w9e, weg), (wa6, wfa), (wa7, wfb), (w9m, weo), (w9i, wek), (w9p, wer), (w9b, wed), (wa9, wfd), (wa8, wfc), (w99, web), (w9o, weq), (w9r, wet), (w98, wea), (w8i, wdl), (w7w, wcz), (w7i, wcl), (w7j, wcm), (w94, we6), (w8u, wdw), (w82, wd5), (w85, wd8), (w8b, wde), (w8a, wdd), (w8h, wdk), (w8d, wdg), (w7m, wcp), (w74, wc7), (w8z, we1), (w8q, wds), (w73, wc6), (w89, wdc), (w90, we2), (w8r, wdt), (w88, wdb), (w7n, wcq), (w87, wda), (w71, wc4), (w81, wd4), (w8c, wdf), (w86, wd9), (w7z, wd2), (w7y, wd1), (w84, wd7), (w8y, we0), (w8v, wdx), (w83, wd6), (w93, we5), (w8t, wdv), (w7v, wcy), (w7q, wct), (w8f, wdi), (w77, wca), (w9n, wep), (w9g, wei), (w8l, wdo), (w8n, wdq), (w8m, wdp), (w8e, wdh), (w7s, wcv), (w8w, wdy), (w7b, wce), (w91, we3), (w7a, wcd), (w7u, wcx), (w7t, wcw), (w7c, wcf), (w92, we4), (w7r, wcu), (w80, wd3), (w7p, wcs), (w7e, wch), (w8x, wdz), (w95, we7), (w7d, wcg), (w79, wcc), (w8p, wdr), (w78, wcb), (w7o, wcr), (w8s, wdu), (w7h, wck), (w7g, wcj), (w6z, wc2), (w72, wc5), (w7x, wd0), (w75, wc8), (w7l, wco), (w7k, wcn), (w8g, wdj), (w7f, wci), (w70, wc3), (w96, we8), (w97, we9), (w76, wc9), (w8j, wdm)]
def F (f : FuncId) : Option IFun := (tbl.find? fun p => p.1 == f).map (·.2)
def exts : List (FuncId × (List PV → Option PV)) := [(w8o, w6x)]
def ext (f : FuncId) : Option (List PV → Option PV) := (exts.find? fun p => p.1 == f).map (·.2)
noncomputable def C : Orc := lim F ext
@[go_sem] abbrev Wr (i : IFun) (a : List PV) (M : List Blk) (r : PV × List Blk) : Prop := W C M.length i.body ⟨start i a, M⟩ (Lv M.length i.results r)
@[go_sem] abbrev We (i : IFun) (a : List PV) (M : List Blk) (P : PV × List Blk → Prop) : Prop := W C M.length i.body ⟨start i a, M⟩ (Le' M.length i.results P)
variable {a : List PV} {M : List Blk} {r : PV × List Blk} {P : PV × List Blk → Prop}
theorem w1j (h : Wr wdn a M r) : C w8k a M = some r := z7u rfl rfl h
theorem w36 (h : We weu a M P) : Lw (C w9s a M) P := z7r rfl rfl h
theorem w38 (h : We wew a M P) : Lw (C w9u a M) P := z7r rfl rfl h
theorem w3c (h : We wf2 a M P) : Lw (C w9y a M) P := z7r rfl rfl h
theorem w3a (h : We wey a M P) : Lw (C w9w a M) P := z7r rfl rfl h
theorem w3d (h : We wf7 a M P) : Lw (C wa3 a M) P := z7r rfl rfl h
theorem w39 (h : We wex a M P) : Lw (C w9v a M) P := z7r rfl rfl h
theorem w37 (h : We wev a M P) : Lw (C w9t a M) P := z7r rfl rfl h
theorem w34 (h : We wes a M P) : Lw (C w9q a M) P := z7r rfl rfl h
theorem w3b (h : We wez a M P) : Lw (C w9x a M) P := z7r rfl rfl h
theorem w2l (h : Wr wf4 a M r) : C wa0 a M = some r := z7u rfl rfl h
theorem w2k (h : Wr wf3 a M r) : C w9z a M = some r := z7u rfl rfl h
theorem w2o (h : Wr wf8 a M r) : C wa4 a M = some r := z7u rfl rfl h
theorem w2f (h : Wr wen a M r) : C w9l a M = some r := z7u rfl rfl h
theorem w2m (h : Wr wf5 a M r) : C wa1 a M = some r := z7u rfl rfl h
theorem w2p (h : Wr wf9 a M r) : C wa5 a M = some r := z7u rfl rfl h
theorem w2e (h : Wr wem a M r) : C w9k a M = some r := z7u rfl rfl h
theorem w2d (h : Wr wel a M r) : C w9j a M = some r := z7u rfl rfl h
theorem w2b (h : Wr wej a M r) : C w9h a M = some r := z7u rfl rfl h
theorem w2n (h : Wr wf6 a M r) : C wa2 a M = some r := z7u rfl rfl h
theorem w26 (h : Wr wee a M r) : C w9c a M = some r := z7u rfl rfl h
theorem w2w (h : Wr wfg a M r) : C wac a M = some r := z7u rfl rfl h
theorem w2u (h : Wr wfe a M r) : C waa a M = some r := z7u rfl rfl h
theorem w2v (h : Wr wff a M r) : C wab a M = some r := z7u rfl rfl h
theorem w29 (h : Wr weh a M r) : C w9f a M = some r := z7u rfl rfl h
theorem w24 (h : Wr wec a M r) : C w9a a M = some r := z7u rfl rfl h
theorem w27 (h : Wr wef a M r) : C w9d a M = some r := z7u rfl rfl h
theorem w2x (h : Wr wfh a M r) : C wad a M = some r := z7u rfl rfl h
theorem w28 (h : Wr weg a M r) : C w9e a M = some r := z7u rfl rfl h
theorem w2q (h : Wr wfa a M r) : C wa6 a M = some r := z7u rfl rfl h
theorem w2r (h : Wr wfb a M r) : C wa7 a M = some r := z7u rfl rfl h
theorem w2g (h : Wr weo a M r) : C w9m a M = some r := z7u rfl rfl h
theorem w2c (h : Wr wek a M r) : C w9i a M = some r := z7u rfl rfl h
theorem w2j (h : Wr wer a M r) : C w9p a M = some r := z7u rfl rfl h
theorem w25 (h : Wr wed a M r) : C w9b a M = some r := z7u rfl rfl h
theorem w2t (h : Wr wfd a M r) : C wa9 a M = some r := z7u rfl rfl h
theorem w2s (h : Wr wfc a M r) : C wa8 a M = some r := z7u rfl rfl h
theorem w23 (h : Wr web a M r) : C w99 a M = some r := z7u rfl rfl h
theorem w2i (h : Wr weq a M r) : C w9o a M = some r := z7u rfl rfl h
theorem w35 (h : We wet a M P) : Lw (C w9r a M) P := z7r rfl rfl h
theorem w33 (h : We wea a M P) : Lw (C w98 a M) P := z7r rfl rfl h
theorem w1h (h : Wr wdl a M r) : C w8i a M = some r := z7u rfl rfl h
theorem w0w (h : Wr wcz a M r) : C w7w a M = some r := z7u rfl rfl h
theorem w0i (h : Wr wcl a M r) : C w7i a M = some r := z7u rfl rfl h
theorem w0j (h : Wr wcm a M r) : C w7j a M = some r := z7u rfl rfl h
theorem w21 (h : Wr we6 a M r) : C w94 a M = some r := z7u rfl rfl h
theorem w1s (h : Wr wdw a M r) : C w8u a M = some r := z7u rfl rfl h
theorem w12 (h : Wr wd5 a M r) : C w82 a M = some r := z7u rfl rfl h
theorem w14 (h : Wr wd8 a M r) : C w85 a M = some r := z7u rfl rfl h
theorem w1a (h : Wr wde a M r) : C w8b a M = some r := z7u rfl rfl h
theorem w19 (h : Wr wdd a M r) : C w8a a M = some r := z7u rfl rfl h
theorem w1g (h : Wr wdk a M r) : C w8h a M = some r := z7u rfl rfl h
theorem w1c (h : Wr wdg a M r) : C w8d a M = some r := z7u rfl rfl h
theorem w0m (h : Wr wcp a M r) : C w7m a M = some r := z7u rfl rfl h
theorem w05 (h : Wr wc7 a M r) : C w74 a M = some r := z7u rfl rfl h
theorem w1w (h : Wr we1 a M r) : C w8z a M = some r := z7u rfl rfl h
theorem w1o (h : Wr wds a M r) : C w8q a M = some r := z7u rfl rfl h
theorem w04 (h : Wr wc6 a M r) : C w73 a M = some r := z7u rfl rfl h
theorem w18 (h : Wr wdc a M r) : C w89 a M = some r := z7u rfl rfl h
theorem w1x (h : Wr we2 a M r) : C w90 a M = some r := z7u rfl rfl h
theorem w1p (h : Wr wdt a M r) : C w8r a M = some r := z7u rfl rfl h
theorem w17 (h : Wr wdb a M r) : C w88 a M = some r := z7u rfl rfl h
theorem w0n (h : Wr wcq a M r) : C w7n a M = some r := z7u rfl rfl h
theorem w16 (h : Wr wda a M r) : C w87 a M = some r := z7u rfl rfl h
theorem w02 (h : Wr wc4 a M r) : C w71 a M = some r := z7u rfl rfl h
theorem w11 (h : Wr wd4 a M r) : C w81 a M = some r := z7u rfl rfl h
theorem w1b (h : Wr wdf a M r) : C w8c a M = some r := z7u rfl rfl h
theorem w15 (h : Wr wd9 a M r) : C w86 a M = some r := z7u rfl rfl h
theorem w0z (h : Wr wd2 a M r) : C w7z a M = some r := z7u rfl rfl h
theorem w0y (h : Wr wd1 a M r) : C w7y a M = some r := z7u rfl rfl h
theorem w13 (h : Wr wd7 a M r) : C w84 a M = some r := z7u rfl rfl h
theorem w1v (h : Wr we0 a M r) : C w8y a M = some r := z7u rfl rfl h
theorem w30 (h : We wdx a M P) : Lw (C w8v a M) P := z7r rfl rfl h
theorem w2z (h : We wd6 a M P) : Lw (C w83 a M) P := z7r rfl rfl h
theorem w20 (h : Wr we5 a M r) : C w93 a M = some r := z7u rfl rfl h
theorem w1r (h : Wr wdv a M r) : C w8t a M = some r := z7u rfl rfl h
theorem w0v (h : Wr wcy a M r) : C w7v a M = some r := z7u rfl rfl h
theorem w0q (h : Wr wct a M r) : C w7q a M = some r := z7u rfl rfl h
theorem w1e (h : Wr wdi a M r) : C w8f a M = some r := z7u rfl rfl h
theorem w07 (h : Wr wca a M r) : C w77 a M = some r := z7u rfl rfl h
theorem w2h (h : Wr wep a M r) : C w9n a M = some r := z7u rfl rfl h
theorem w2a (h : Wr wei a M r) : C w9g a M = some r := z7u rfl rfl h
theorem w1k (h : Wr wdo a M r) : C w8l a M = some r := z7u rfl rfl h
theorem w1m (h : Wr wdq a M r) : C w8n a M = some r := z7u rfl rfl h
theorem w1l (h : Wr wdp a M r) : C w8m a M = some r := z7u rfl rfl h
theorem w1d (h : Wr wdh a M r) : C w8e a M = some r := z7u rfl rfl h
theorem w0s (h : Wr wcv a M r) : C w7s a M = some r := z7u rfl rfl h
theorem w1t (h : Wr wdy a M r) : C w8w a M = some r := z7u rfl rfl h
theorem w0b (h : Wr wce a M r) : C w7b a M = some r := z7u rfl rfl h
theorem w1y (h : Wr we3 a M r) : C w91 a M = some r := z7u rfl rfl h
theorem w0a (h : Wr wcd a M r) : C w7a a M = some r := z7u rfl rfl h
theorem w0u (h : Wr wcx a M r) : C w7u a M = some r := z7u rfl rfl h
theorem w0t (h : Wr wcw a M r) : C w7t a M = some r := z7u rfl rfl h
theorem w0c (h : Wr wcf a M r) : C w7c a M = some r := z7u rfl rfl h
theorem w1z (h : Wr we4 a M r) : C w92 a M = some r := z7u rfl rfl h
theorem w0r (h : Wr wcu a M r) : C w7r a M = some r := z7u rfl rfl h
theorem w10 (h : Wr wd3 a M r) : C w80 a M = some r := z7u rfl rfl h
theorem w0p (h : Wr wcs a M r) : C w7p a M = some r := z7u rfl rfl h
theorem w0e (h : Wr wch a M r) : C w7e a M = some r := z7u rfl rfl h
theorem w1u (h : Wr wdz a M r) : C w8x a M = some r := z7u rfl rfl h
theorem w22 (h : Wr we7 a M r) : C w95 a M = some r := z7u rfl rfl h
theorem w0d (h : Wr wcg a M r) : C w7d a M = some r := z7u rfl rfl h
theorem w09 (h : Wr wcc a M r) : C w79 a M = some r := z7u rfl rfl h
theorem w1n (h : Wr wdr a M r) : C w8p a M = some r := z7u rfl rfl h
theorem w08 (h : Wr wcb a M r) : C w78 a M = some r := z7u rfl rfl h
theorem w0o (h : Wr wcr a M r) : C w7o a M = some r := z7u rfl rfl h
theorem w1q (h : Wr wdu a M r) : C w8s a M = some r := z7u rfl rfl h
theorem w0h (h : Wr wck a M r) : C w7h a M = some r := z7u rfl rfl h
theorem w0g (h : Wr wcj a M r) : C w7g a M = some r := z7u rfl rfl h
theorem w00 (h : Wr wc2 a M r) : C w6z a M = some r := z7u rfl rfl h
theorem w03 (h : Wr wc5 a M r) : C w72 a M = some r := z7u rfl rfl h
theorem w0x (h : Wr wd0 a M r) : C w7x a M = some r := z7u rfl rfl h
theorem w2y (h : We wc8 a M P) : Lw (C w75 a M) P := z7r rfl rfl h
theorem w0l (h : Wr wco a M r) : C w7l a M = some r := z7u rfl rfl h
theorem w0k (h : Wr wcn a M r) : C w7k a M = some r := z7u rfl rfl h
theorem w1f (h : Wr wdj a M r) : C w8g a M = some r := z7u rfl rfl h
theorem w0f (h : Wr wci a M r) : C w7f a M = some r := z7u rfl rfl h
theorem w01 (h : Wr wc3 a M r) : C w70 a M = some r := z7u rfl rfl h
theorem w31 (h : We we8 a M P) : Lw (C w96 a M) P := z7r rfl rfl h
theorem w32 (h : We we9 a M P) : Lw (C w97 a M) P := z7r rfl rfl h
theorem w06 (h : Wr wc9 a M r) : C w76 a M = some r := z7u rfl rfl h
theorem w1i (h : Wr wdm a M r) : C w8j a M = some r := z7u rfl rfl h
theorem wfn {es : List PV} (h : es.length ≤ 68719476736) : C w8o [.sl true 1 es] [] = some (.un t_int true 1 es, []) := zno (e := w6x) rfl (by simp [w6x, zdt, h])
end Go.Proofs.YtkkifebmicbbaaaGreat.Pi
