/- The forms of the functions that the law reaches, and their oracle. Definitions alone; no condition. -/
import Derived.Test.YtbaclnecajkknaaGreatPiExt
namespace Go.Proofs.YtbaclnecajkknaaGreat.Pi
open Go
set_option linter.all false
abbrev t_int : TypeId := 3
abbrev wgj : TypeId := 4
abbrev wgm : TypeId := 26
abbrev wgl : TypeId := 28
abbrev wgp : TypeId := 31
abbrev wgn : TypeId := 69
abbrev wgr : TypeId := 79
abbrev wgk : TypeId := 108
abbrev wgo : TypeId := 119
abbrev wgq : TypeId := 220
abbrev w7k : FuncId := 7
abbrev w95 : FuncId := 174
abbrev w97 : FuncId := 91
abbrev w96 : FuncId := 108
abbrev w9h : FuncId := 113
abbrev w91 : FuncId := 122
abbrev w98 : FuncId := 123
abbrev w8y : FuncId := 124
abbrev w90 : FuncId := 54
abbrev w9b : FuncId := 136
abbrev w9g : FuncId := 170
abbrev w9i : FuncId := 171
abbrev w8s : FuncId := 84
abbrev w9q : FuncId := 243
abbrev w9o : FuncId := 244
abbrev w9p : FuncId := 245
abbrev w8t : FuncId := 213
abbrev w9a : FuncId := 112
abbrev w8q : FuncId := 135
abbrev w9r : FuncId := 137
abbrev w8u : FuncId := 74
abbrev w94 : FuncId := 175
abbrev w9e : FuncId := 92
abbrev w92 : FuncId := 161
abbrev w99 : FuncId := 94
abbrev w9f : FuncId := 66
abbrev w8v : FuncId := 85
abbrev w8r : FuncId := 101
abbrev w9n : FuncId := 180
abbrev w9k : FuncId := 214
abbrev w9l : FuncId := 138
abbrev w8o : FuncId := 159
abbrev w9m : FuncId := 139
abbrev w8p : FuncId := 160
abbrev w93 : FuncId := 75
abbrev w8z : FuncId := 95
abbrev w8n : FuncId := 31
abbrev w7i : FuncId := 69
abbrev w7c : FuncId := 237
abbrev w73 : FuncId := 83
abbrev w76 : FuncId := 169
abbrev w6z : FuncId := 168
abbrev w80 : FuncId := 236
abbrev w7u : FuncId := 167
abbrev w6y : FuncId := 82
abbrev w6x : FuncId := 97
abbrev w7f : FuncId := 86
abbrev w7q : FuncId := 71
abbrev w7r : FuncId := 176
abbrev w83 : FuncId := 162
abbrev w7x : FuncId := 77
abbrev w7h : FuncId := 177
abbrev w7o : FuncId := 232
abbrev w7p : FuncId := 233
abbrev w7n : FuncId := 164
abbrev w88 : FuncId := 224
abbrev w8i : FuncId := 258
abbrev w87 : FuncId := 225
abbrev w8b : FuncId := 259
abbrev w8j : FuncId := 260
abbrev w85 : FuncId := 226
abbrev w8c : FuncId := 268
abbrev w8a : FuncId := 262
abbrev w89 : FuncId := 261
abbrev w86 : FuncId := 227
abbrev w8h : FuncId := 228
abbrev w8d : FuncId := 229
abbrev w8f : FuncId := 230
abbrev w8e : FuncId := 231
abbrev w8g : FuncId := 163
abbrev w84 : FuncId := 78
abbrev w6q : FuncId := 234
abbrev w6p : FuncId := 165
abbrev w7t : FuncId := 79
abbrev w7s : FuncId := 185
abbrev w7z : FuncId := 179
abbrev w78 : FuncId := 100
abbrev w7g : FuncId := 106
abbrev w7y : FuncId := 178
abbrev w77 : FuncId := 96
abbrev w6v : FuncId := 99
abbrev w82 : FuncId := 130
abbrev w7w : FuncId := 98
abbrev w6u : FuncId := 32
abbrev w9s : FuncId := 103
abbrev w9v : FuncId := 181
abbrev w8x : FuncId := 102
abbrev w9j : FuncId := 142
abbrev w8w : FuncId := 147
abbrev w9c : FuncId := 65
abbrev w9d : FuncId := 182
abbrev w9u : FuncId := 183
abbrev w9t : FuncId := 104
abbrev w8k : FuncId := 35
abbrev w8m : FuncId := 33
abbrev w6r : FuncId := 34
abbrev w6s : FuncId := 36
abbrev w8l : FuncId := 37
abbrev w7l : FuncId := 30
abbrev w7m : FuncId := 22
abbrev w75 : FuncId := 184
abbrev w74 : FuncId := 105
abbrev w70 : FuncId := 38
abbrev w6t : FuncId := 39
abbrev w7e : FuncId := 173
abbrev w81 : FuncId := 238
abbrev w7v : FuncId := 172
abbrev w7d : FuncId := 88
abbrev w79 : FuncId := 151
abbrev w7b : FuncId := 90
abbrev w72 : FuncId := 207
abbrev w71 : FuncId := 127
abbrev w7a : FuncId := 107
abbrev w6w : FuncId := 40
abbrev w7j : FuncId := 5
def w6m : List PV → Option PV := zf3 t_int true 1
def w6n : List PV → Option PV := zf3 wgp false 1
@[go_sem] abbrev jn (o : IOp) : IOper := ⟨none, o, none⟩
@[go_sem] abbrev js (k : Nat) (o : IOp) : IOper := ⟨some k, o, none⟩
@[go_sem] abbrev jt (j : Nat) (o : IOp) : IOper := ⟨none, o, some (j, true)⟩
@[go_sem] abbrev jf (j : Nat) (o : IOp) : IOper := ⟨none, o, some (j, false)⟩
@[go_sem] abbrev jr (l : List IOper) : ICode := .region false [] l
@[go_sem] abbrev jc (n : Int) : Opd := .c (.int .i64 n)
def wbo : IFun := ⟨[0, 1, 4],
  (.seq (jr [js 2 (.mov (.c (.bool false)))])
  (.seq (jr [jn (.mov (.v 0)), jn (.len false (.r 0)), jn (.bin false .gtr (.r 1) (jc 1048576)), jn (.mov (.r 2)), jf 3 (.mov (.v 1)), jf 3 (.len false (.r 4)), jf 3 (.mov (.v 0)), jf 3 (.len false (.r 6)), jf 3 (.bin false .sub (jc 1048576) (.r 7)), jf 3 (.bin false .gtr (.r 5) (.r 8)), jn (.pick (.r 3) (.c (.bool true)) (.r 9)), js 2 (.mov (.r 10))])
  .ret)),
  [.v 2]⟩
def wd7 : IFun := ⟨[0, 2, 3, 13, 53],
  (.seq (jr [js 1 (.mov (jc 0))])
  (.seq (jr [js 2 (.mov (jc 0))])
  (.seq (.seq (.region true [] [jn (.mov (.v 0)), jn (.ncheck (.r 0)), jn (.faddr 1 (.r 1)), jn (.load false 1 (.r 2)), jn (.mov (.v 0)), jn (.ncheck (.r 4)), jn (.faddr 0 (.r 5)), jn (.load false 1 (.r 6)), jn (.len false (.r 7)), js 3 (.bin false .lss (.r 3) (.r 8))])
  (.cond (.v 3) (.region true [] [jn (.mov (.v 0)), jn (.ncheck (.r 0)), jn (.faddr 0 (.r 1)), jn (.load false 1 (.r 2)), jn (.mov (.v 0)), jn (.ncheck (.r 4)), jn (.faddr 1 (.r 5)), jn (.load false 1 (.r 6)), jn (.iaddr 1 (.r 3) (.r 7)), jn (.load false 1 (.r 8)), jn (.conv .i64 (.r 9)), js 2 (.mov (.r 10))]) .skip))
  (.seq (jr [jn (.mov (.v 0)), jn (.ncheck (.r 0)), jn (.faddr 1 (.r 1)), jn (.load false 1 (.r 2)), jn (.bin false .add (.r 3) (jc 1)), jn (.ncheck (.r 0)), jn (.faddr 1 (.r 5)), jn (.store 1 (.r 6) (.r 4))])
  (.seq (jr [jn (.mov (.v 0)), jn (.mov (.v 0)), jn (.ncheck (.r 1)), jn (.faddr 2 (.r 2)), jn (.load false 1 (.r 3)), jn (.bin false .mul (.r 4) (.c (.int .u64 6364136223846793005))), jn (.mov (.v 2)), jn (.conv .u64 (.r 6)), jn (.bin false .add (.r 5) (.r 7)), jn (.bin false .add (.r 8) (.c (.int .u64 1442695040888963407))), jn (.ncheck (.r 0)), jn (.faddr 2 (.r 10)), jn (.store 1 (.r 11) (.r 9))])
  (.seq (.seq (.region true [] [jn (.mov (.v 0)), jn (.ncheck (.r 0)), jn (.faddr 1 (.r 1)), jn (.load false 1 (.r 2)), jn (.mov (.v 0)), jn (.ncheck (.r 4)), jn (.faddr 0 (.r 5)), jn (.load false 1 (.r 6)), jn (.len false (.r 7)), js 4 (.bin false .leq (.r 3) (.r 8))])
  (.cond (.v 4) (.seq (jr [jn (.mov (.v 2)), js 1 (.mov (.r 0))])
  .ret) .skip))
  (.seq (jr [jn (.mov (.v 0)), jn (.ncheck (.r 0)), jn (.faddr 2 (.r 1)), jn (.load false 1 (.r 2)), jn (.bin false .shr (.r 3) (.c (.int .u64 40))), jn (.bin false .and (.r 4) (.c (.int .u64 255))), jn (.conv .i64 (.r 5)), js 1 (.mov (.r 6))])
  .ret))))))),
  [.v 1]⟩
def wd9 : IFun := ⟨[0, 1, 4, 5, 7, 11],
  (.seq (jr [js 2 (.mov (jc 0))])
  (.seq (.seq (jr [jn (.mov (.v 1)), js 4 (.bin false .leq (.r 0) (jc 1))])
  (.cond (.v 4) (.seq (jr [js 2 (.mov (jc 0))])
  .ret) .skip))
  (.seq (jr [jn (.mov (.v 0)), jn (.callm w95 [(.r 0)]), js 3 (.mov (.r 1))])
  (.seq (.seq (jr [jn (.mov (.v 1)), js 5 (.bin false .gtr (.r 0) (jc 200))])
  (.cond (.v 5) (jr [jn (.mov (.v 3)), jn (.bin false .mul (.r 0) (jc 256)), jn (.mov (.v 0)), jn (.callm w95 [(.r 2)]), jn (.bin false .add (.r 1) (.r 3)), js 3 (.mov (.r 4))]) .skip))
  (.seq (jr [jn (.mov (.v 3)), jn (.mov (.v 1)), jn (.bin false .rem (.r 0) (.r 1)), js 2 (.mov (.r 2))])
  .ret))))),
  [.v 2]⟩
def wd8 : IFun := ⟨[0, 1, 4],
  (.seq (jr [js 2 (.mov (.c (.bool false)))])
  (.seq (jr [jn (.mov (.v 0)), jn (.mov (.v 1)), jn (.callm w97 [(.r 0), (.r 1)]), jn (.bin false .eql (.r 2) (jc 0)), js 2 (.mov (.r 3))])
  .ret)),
  [.v 2]⟩
def wdj : IFun := ⟨[0, 1, 4, 5, 6, 18, 32],
  (.seq (jr [js 2 (.nilrow t_int true 1)])
  (.seq (jr [js 3 (.mov (jc 0))])
  (.seq (.block 0 (.loop [true, true, false, true, false, false, false] (.seq (.seq (jr [jn (.mov (.v 3)), jn (.mov (.v 0)), jn (.len false (.r 1)), jn (.bin false .lss (.r 0) (.r 2)), jn (.mov (.r 3)), jt 4 (.mov (.v 0)), jt 4 (.mov (.v 3)), jt 4 (.iaddr 1 (.r 5) (.r 6)), jt 4 (.load false 1 (.r 7)), jt 4 (.mov (.v 1)), jt 4 (.bin false .lss (.r 8) (.r 9)), js 5 (.pick (.r 4) (.r 10) (.c (.bool false)))])
  (.cond (.v 5) .skip (.exit 0)))
  (.block 1 (jr [jn (.mov (.v 3)), jn (.bin false .add (.r 0) (jc 1)), js 3 (.mov (.r 1))])))))
  (.seq (.seq (jr [jn (.mov (.v 3)), jn (.mov (.v 0)), jn (.len false (.r 1)), jn (.bin false .lss (.r 0) (.r 2)), jn (.mov (.r 3)), jt 4 (.mov (.v 0)), jt 4 (.mov (.v 3)), jt 4 (.iaddr 1 (.r 5) (.r 6)), jt 4 (.load false 1 (.r 7)), jt 4 (.mov (.v 1)), jt 4 (.bin false .eql (.r 8) (.r 9)), js 6 (.pick (.r 4) (.r 10) (.c (.bool false)))])
  (.cond (.v 6) (.seq (jr [jn (.mov (.v 0)), js 2 (.mov (.r 0))])
  .ret) .skip))
  (.seq (jr [jn (.bslice false t_int true 1 []), jn (.mov (.v 0)), jn (.mov (.v 3)), jn (.slice 1 (.r 1) none (some (.r 2))), jn (.append t_int true 1 (.r 0) (.r 3)), js 4 (.mov (.r 4))])
  (.seq (jr [jn (.mov (.v 4)), jn (.mov (.v 1)), jn (.bslice false t_int true 1 [(.r 1)]), jn (.append t_int true 1 (.r 0) (.r 2)), js 4 (.mov (.r 3))])
  (.seq (jr [jn (.mov (.v 4)), jn (.mov (.v 0)), jn (.mov (.v 3)), jn (.slice 1 (.r 1) (some (.r 2)) none), jn (.append t_int true 1 (.r 0) (.r 3)), js 2 (.mov (.r 4))])
  .ret))))))),
  [.v 2]⟩
def wd3 : IFun := ⟨[0, 1, 2, 3, 4, 10, 27, 47, 91, 115, 131],
  (.seq (.seq (jr [jn (.mov (.v 4)), jn (.bin false .eql (.r 0) (jc 0)), jn (.mov (.r 1)), jf 2 (.mov (.v 1)), jf 2 (.ncheck (.r 3)), jf 2 (.faddr 0 (.r 4)), jf 2 (.load false 1 (.r 5)), jf 2 (.bin false .gtr (.r 6) (jc 9)), jn (.pick (.r 2) (.c (.bool true)) (.r 7)), jn (.mov (.r 8)), jf 9 (.mov (.v 1)), jf 9 (.ncheck (.r 10)), jf 9 (.faddr 1 (.r 11)), jf 9 (.load false 1 (.r 12)), jf 9 (.len false (.r 13)), jf 9 (.bin false .gtr (.r 14) (jc 12)), js 6 (.pick (.r 9) (.c (.bool true)) (.r 15))])
  (.cond (.v 6) (.seq (jr [jn (.mov (.v 1)), jn (.mov (.v 1)), jn (.ncheck (.r 1)), jn (.faddr 1 (.r 2)), jn (.load false 1 (.r 3)), jn (.mov (.v 2)), jn (.bslice false t_int true 1 [(.r 5)]), jn (.mov (.v 3)), jn (.bslice false t_int true 1 [(.r 7)]), jn (.build [(.nil true 1), (.nil true 1), (.nil true 1)] [(0, 1, (.r 6)), (1, 1, (.r 8))]), jn (.bslice false wgo false 3 [(.r 9)]), jn (.append wgo false 3 (.r 4) (.r 10)), jn (.ncheck (.r 0)), jn (.faddr 1 (.r 12)), jn (.store 1 (.r 13) (.r 11))])
  .ret) .skip))
  (.seq (jr [jn (.mov (.v 1)), jn (.ncheck (.r 0)), jn (.faddr 0 (.r 1)), jn (.load false 1 (.r 2)), js 5 (.mov (.r 3))])
  (.seq (jr [jn (.mov (.v 0)), js 7 (.callm w97 [(.r 0), (jc 5)])])
  (.block 0 (.seq (.seq (jr [jn (.bin false .eql (.v 7) (jc 0)), js 8 (.mov (.r 0))])
  (.cond (.v 8) .skip (jr [jn (.bin false .eql (.v 7) (jc 1)), js 8 (.mov (.r 0))])))
  (.cond (.v 8) (.seq (jr [jn (.mov (.v 1)), jn (.ncheck (.r 0)), jn (.faddr 0 (.r 1)), jn (.load false 1 (.r 2)), jn (.bin false .add (.r 3) (jc 1)), jn (.ncheck (.r 0)), jn (.faddr 0 (.r 5)), jn (.store 1 (.r 6) (.r 4))])
  (.seq (jr [jn (.mov (.v 0)), jn (.mov (.v 1)), jn (.mov (.v 2)), jn (.mov (.v 5)), jn (.mov (.v 4)), jn (.bin false .sub (.r 4) (jc 1)), jn (.callm w91 [(.r 0), (.r 1), (.r 2), (.r 3), (.r 5)])])
  (jr [jn (.mov (.v 0)), jn (.mov (.v 1)), jn (.mov (.v 5)), jn (.mov (.v 3)), jn (.mov (.v 4)), jn (.bin false .sub (.r 4) (jc 1)), jn (.callm w91 [(.r 0), (.r 1), (.r 2), (.r 3), (.r 5)])]))) (.seq (jr [jn (.bin false .eql (.v 7) (jc 2)), js 9 (.mov (.r 0))])
  (.cond (.v 9) (.seq (jr [jn (.mov (.v 0)), jn (.mov (.v 1)), jn (.mov (.v 2)), jn (.mov (.v 3)), jn (.mov (.v 4)), jn (.bin false .sub (.r 4) (jc 1)), jn (.callm w91 [(.r 0), (.r 1), (.r 2), (.r 3), (.r 5)])])
  (jr [jn (.mov (.v 0)), jn (.mov (.v 1)), jn (.mov (.v 2)), jn (.mov (.v 3)), jn (.mov (.v 4)), jn (.bin false .sub (.r 4) (jc 1)), jn (.callm w91 [(.r 0), (.r 1), (.r 2), (.r 3), (.r 5)])])) (.seq (jr [jn (.bin false .eql (.v 7) (jc 3)), js 10 (.mov (.r 0))])
  (.cond (.v 10) (.seq (jr [jn (.mov (.v 1)), jn (.ncheck (.r 0)), jn (.faddr 0 (.r 1)), jn (.load false 1 (.r 2)), jn (.bin false .add (.r 3) (jc 4)), jn (.ncheck (.r 0)), jn (.faddr 0 (.r 5)), jn (.store 1 (.r 6) (.r 4))])
  (.seq (.region true [(18, 4), (20, 4)] [jn (.mov (.v 1)), jn (.mov (.v 1)), jn (.ncheck (.r 1)), jn (.faddr 1 (.r 2)), jn (.load false 1 (.r 3)), jn (.mov (.v 2)), jn (.bslice true t_int true 1 [(.r 5)]), jn (.mov (.v 5)), jn (.mov (.v 5)), jn (.bin false .add (.r 8) (jc 1)), jn (.bslice true t_int true 1 [(.r 7), (.r 9)]), jn (.build [(.nil true 1), (.nil true 1), (.nil true 1)] [(0, 1, (.r 6)), (1, 1, (.r 10))]), jn (.mov (.v 5)), jn (.bin false .add (.r 12) (jc 2)), jn (.mov (.v 5)), jn (.bin false .add (.r 14) (jc 3)), jn (.bslice true t_int true 1 [(.r 13), (.r 15)]), jn (.mov (.v 3)), jn (.callm w9h [(.c (.nil true 1)), (.r 17)]), jn (.build [(.nil true 1), (.nil true 1), (.nil true 1)] [(0, 1, (.r 16)), (1, 1, (.r 18))]), jn (.bslice false wgo false 3 [(.r 11), (.r 19)]), jn (.append wgo false 3 (.r 4) (.r 20)), jn (.ncheck (.r 0)), jn (.faddr 1 (.r 22)), jn (.store 1 (.r 23) (.r 21))])
  (.seq (jr [jn (.mov (.v 0)), jn (.mov (.v 1)), jn (.mov (.v 5)), jn (.mov (.v 5)), jn (.bin false .add (.r 3) (jc 2)), jn (.mov (.v 4)), jn (.bin false .sub (.r 5) (jc 1)), jn (.callm w91 [(.r 0), (.r 1), (.r 2), (.r 4), (.r 6)])])
  (jr [jn (.mov (.v 0)), jn (.mov (.v 1)), jn (.mov (.v 5)), jn (.bin false .add (.r 2) (jc 1)), jn (.mov (.v 5)), jn (.bin false .add (.r 4) (jc 3)), jn (.mov (.v 4)), jn (.bin false .sub (.r 6) (jc 1)), jn (.callm w91 [(.r 0), (.r 1), (.r 3), (.r 5), (.r 7)])])))) (.seq (jr [jn (.mov (.v 1)), jn (.ncheck (.r 0)), jn (.faddr 0 (.r 1)), jn (.load false 1 (.r 2)), jn (.bin false .add (.r 3) (jc 2)), jn (.ncheck (.r 0)), jn (.faddr 0 (.r 5)), jn (.store 1 (.r 6) (.r 4))])
  (.seq (jr [jn (.mov (.v 1)), jn (.mov (.v 1)), jn (.ncheck (.r 1)), jn (.faddr 1 (.r 2)), jn (.load false 1 (.r 3)), jn (.mov (.v 2)), jn (.bslice false t_int true 1 [(.r 5)]), jn (.mov (.v 5)), jn (.bslice false t_int true 1 [(.r 7)]), jn (.build [(.nil true 1), (.nil true 1), (.nil true 1)] [(0, 1, (.r 6)), (1, 1, (.r 8))]), jn (.mov (.v 5)), jn (.bin false .add (.r 10) (jc 1)), jn (.bslice false t_int true 1 [(.r 11)]), jn (.mov (.v 3)), jn (.bslice false t_int true 1 [(.r 13)]), jn (.build [(.nil true 1), (.nil true 1), (.nil true 1)] [(0, 1, (.r 12)), (1, 1, (.r 14))]), jn (.bslice false wgo false 3 [(.r 9), (.r 15)]), jn (.append wgo false 3 (.r 4) (.r 16)), jn (.ncheck (.r 0)), jn (.faddr 1 (.r 18)), jn (.store 1 (.r 19) (.r 17))])
  (.seq (jr [jn (.mov (.v 0)), jn (.mov (.v 1)), jn (.mov (.v 5)), jn (.mov (.v 5)), jn (.bin false .add (.r 3) (jc 1)), jn (.mov (.v 4)), jn (.bin false .sub (.r 5) (jc 1)), jn (.callm w91 [(.r 0), (.r 1), (.r 2), (.r 4), (.r 6)])])
  (jr [jn (.mov (.v 0)), jn (.mov (.v 1)), jn (.mov (.v 5)), jn (.bin false .add (.r 2) (jc 1)), jn (.mov (.v 5)), jn (.mov (.v 4)), jn (.bin false .sub (.r 5) (jc 1)), jn (.callm w91 [(.r 0), (.r 1), (.r 3), (.r 4), (.r 6)])])))))))))))))),
  []⟩
def wda : IFun := ⟨[0, 1, 2, 3, 8, 9, 10, 20],
  (.seq (jr [js 4 (.nilrow t_int true 1)])
  (.seq (jr [js 5 (.nilrow t_int true 1)])
  (.seq (.seq (jr [jn (.mov (.v 2)), jn (.mov (.v 0)), jn (.mov (.v 3)), jn (.mov (.v 2)), jn (.bin false .sub (.r 2) (.r 3)), jn (.bin false .add (.r 4) (jc 1)), jn (.callm w97 [(.r 1), (.r 5)]), jn (.bin false .add (.r 0) (.r 6)), js 6 (.mov (.r 7))])
  (.block 0 (.loop [true, true, false, false, false, true, true, false] (.seq (.seq (jr [jn (.mov (.v 6)), js 7 (.bin false .gtr (.r 0) (jc 0))])
  (.cond (.v 7) .skip (.exit 0)))
  (.seq (.block 1 (jr [jn (.mov (.v 5)), jn (.mov (.v 0)), jn (.mov (.v 1)), jn (.callm w97 [(.r 1), (.r 2)]), jn (.callm w9h [(.r 0), (.r 3)]), js 5 (.mov (.r 4))]))
  (jr [jn (.mov (.v 6)), jn (.bin false .sub (.r 0) (jc 1)), js 6 (.mov (.r 1))]))))))
  (.seq (jr [jn (.mov (.v 5)), js 4 (.mov (.r 0))])
  .ret)))),
  [.v 4]⟩
def wd0 : IFun := ⟨[0, 1, 4],
  (.seq (jr [js 2 (.mov (jc 0))])
  (.seq (jr [jn (.mov (.v 1)), jn (.mov (.v 0)), jn (.mov (.v 1)), jn (.len false (.r 2)), jn (.callm w97 [(.r 1), (.r 3)]), jn (.iaddr 1 (.r 0) (.r 4)), jn (.load false 1 (.r 5)), js 2 (.mov (.r 6))])
  .ret)),
  [.v 2]⟩
def wd2 : IFun := ⟨[0, 1, 4, 5, 6, 7, 23, 24, 46, 67, 88, 90, 103],
  (.seq (jr [js 2 (.alloc wgl [(.int .i64 0), (.nil false 3), (.int .i64 0), (.int .i64 0)])])
  (.seq (jr [jn (.build [(.int .i64 0), (.nil false 3)] [(0, 1, (jc 2))]), js 3 (.alloc wgm [(.int .i64 0), (.nil false 3)]), jn (.store 2 (.v 3) (.r 0))])
  (.seq (jr [jn (.mov (.v 0)), jn (.mov (.v 0)), jn (.callm w97 [(.r 1), (jc 3)]), jn (.bin false .add (jc 1) (.r 2)), jn (.callm w91 [(.r 0), (.v 3), (jc 0), (jc 1), (.r 3)])])
  (.seq (jr [jn (.load true 2 (.v 3)), jn (.build [(.int .i64 0), (.nil false 3), (.int .i64 0), (.int .i64 0)] [(0, 2, (.r 0)), (2, 1, (jc 0)), (3, 1, (jc 1))]), js 4 (.alloc wgl [(.int .i64 0), (.nil false 3), (.int .i64 0), (.int .i64 0)]), jn (.store 4 (.v 4) (.r 1))])
  (.seq (jr [jn (.mov (.v 0)), jn (.faddr 0 (.v 4)), jn (.faddr 1 (.r 1)), jn (.load false 1 (.r 2)), jn (.len false (.r 3)), jn (.callm w97 [(.r 0), (.r 4)]), js 5 (.mov (.r 5))])
  (.seq (.seq (jr [jn (.mov (.v 0)), js 6 (.callm w97 [(.r 0), (jc 9)])])
  (.block 0 (.seq (jr [jn (.bin false .eql (.v 6) (jc 0)), js 7 (.mov (.r 0))])
  (.cond (.v 7) (.region true [(11, 2), (11, 10), (13, 2), (16, 2)] [jn (.faddr 0 (.v 4)), jn (.faddr 1 (.r 0)), jn (.load false 1 (.r 1)), jn (.mov (.v 0)), jn (.faddr 0 (.v 4)), jn (.faddr 0 (.r 4)), jn (.load false 1 (.r 5)), jn (.mov (.v 0)), jn (.faddr 0 (.v 4)), jn (.faddr 0 (.r 8)), jn (.load false 1 (.r 9)), jn (.callm w97 [(.r 3), (.r 6)]), jn (.bslice true t_int true 1 [(.r 11)]), jn (.callm w97 [(.r 7), (.r 10)]), jn (.bslice true t_int true 1 [(.r 13)]), jn (.build [(.nil true 1), (.nil true 1), (.nil true 1)] [(0, 1, (.r 12)), (1, 1, (.r 14))]), jn (.bslice false wgo false 3 [(.r 15)]), jn (.append wgo false 3 (.r 2) (.r 16)), jn (.faddr 0 (.v 4)), jn (.faddr 1 (.r 18)), jn (.store 1 (.r 19) (.r 17))]) (.seq (jr [jn (.bin false .eql (.v 6) (jc 1)), js 8 (.mov (.r 0))])
  (.cond (.v 8) (.region true [(15, 2), (15, 6), (15, 10), (16, 2)] [jn (.faddr 0 (.v 4)), jn (.faddr 1 (.r 0)), jn (.load false 1 (.r 1)), jn (.mov (.v 5)), jn (.faddr 0 (.v 4)), jn (.faddr 1 (.r 4)), jn (.load false 1 (.r 5)), jn (.mov (.v 5)), jn (.iaddr 3 (.r 6) (.r 7)), jn (.faddr 1 (.r 8)), jn (.load false 1 (.r 9)), jn (.mov (.v 0)), jn (.faddr 0 (.v 4)), jn (.faddr 0 (.r 12)), jn (.load false 1 (.r 13)), jn (.callm w97 [(.r 11), (.r 14)]), jn (.callm w9h [(.r 10), (.r 15)]), jn (.iaddr 3 (.r 2) (.r 3)), jn (.faddr 1 (.r 17)), jn (.store 1 (.r 18) (.r 16))]) (.seq (jr [jn (.bin false .eql (.v 6) (jc 2)), js 9 (.mov (.r 0))])
  (.cond (.v 9) (.region true [(15, 2), (15, 6), (15, 10), (16, 2)] [jn (.faddr 0 (.v 4)), jn (.faddr 1 (.r 0)), jn (.load false 1 (.r 1)), jn (.mov (.v 5)), jn (.faddr 0 (.v 4)), jn (.faddr 1 (.r 4)), jn (.load false 1 (.r 5)), jn (.mov (.v 5)), jn (.iaddr 3 (.r 6) (.r 7)), jn (.faddr 0 (.r 8)), jn (.load false 1 (.r 9)), jn (.mov (.v 0)), jn (.faddr 0 (.v 4)), jn (.faddr 0 (.r 12)), jn (.load false 1 (.r 13)), jn (.callm w97 [(.r 11), (.r 14)]), jn (.callm w9h [(.r 10), (.r 15)]), jn (.iaddr 3 (.r 2) (.r 3)), jn (.faddr 0 (.r 17)), jn (.store 1 (.r 18) (.r 16))]) (.seq (jr [jn (.bin false .eql (.v 6) (jc 3)), js 10 (.mov (.r 0))])
  (.cond (.v 10) (.seq (jr [js 11 (.mov (.v 1))])
  (.cond (.v 11) (.region true [(8, 2)] [jn (.faddr 0 (.v 4)), jn (.faddr 1 (.r 0)), jn (.load false 1 (.r 1)), jn (.mov (.v 5)), jn (.mov (.v 0)), jn (.faddr 0 (.v 4)), jn (.faddr 0 (.r 5)), jn (.load false 1 (.r 6)), jn (.callm w98 [(.r 4), (.r 7), (jc 1), (jc 2)]), jn (.iaddr 3 (.r 2) (.r 3)), jn (.faddr 2 (.r 9)), jn (.store 1 (.r 10) (.r 8))]) .skip)) .skip))))))))))
  (.seq (.seq (jr [jn (.mov (.v 0)), js 12 (.callm w96 [(.r 0), (jc 30)])])
  (.cond (.v 12) (jr [jn (.mov (.v 0)), jn (.bslice false t_int true 1 [(jc 0), (jc (-1)), (jc 2), (jc 17)]), jn (.callm w8y [(.r 0), (.r 1)]), jn (.faddr 3 (.v 4)), jn (.store 1 (.r 3) (.r 2))]) .skip))
  (.seq (jr [jn (.load true 4 (.v 4)), jn (.store 4 (.v 2) (.r 0))])
  .ret)))))))),
  [.cell true 4 2]⟩
def wdd : IFun := ⟨[0, 1, 2, 6],
  (.seq (jr [js 3 (.mov (.c (.bool false)))])
  (.seq (jr [jn (.mov (.v 0)), jn (.mov (.v 1)), jn (.bin false .geq (.r 0) (.r 1)), jn (.mov (.r 2)), jt 3 (.mov (.v 0)), jt 3 (.mov (.v 2)), jt 3 (.bin false .leq (.r 4) (.r 5)), jn (.pick (.r 3) (.r 6) (.c (.bool false))), js 3 (.mov (.r 7))])
  .ret)),
  [.v 3]⟩
def wdi : IFun := ⟨[0, 2],
  (.seq (jr [js 1 (.mov (.c (.bool false)))])
  (.seq (jr [jn (.mov (.v 0)), jn (.call false w9b [(.r 0), (jc 1), (jc 16)]), js 1 (.mov (.r 1))])
  .ret)),
  [.v 1]⟩
def wdk : IFun := ⟨[0, 1, 2, 6, 7, 8, 9, 10, 11, 12, 33],
  (.seq (jr [js 3 (.mov (.c (.bool false)))])
  (.seq (.seq (jr [js 6 (.mov (.v 0)), js 7 (.len false (.v 6)), js 8 (.mov (jc 0))])
  (.block 0 (.loop [true, true, true, false, false, false, true, true, true, false, false] (.seq (jr [js 9 (.bin false .lss (.v 8) (.v 7))])
  (.seq (.cond (.v 9) .skip (.exit 0))
  (.seq (.block 1 (.seq (jr [jn (.mov (.v 8)), jn (.iaddr 1 (.v 6) (.v 8)), jn (.load false 1 (.r 1)), js 4 (.mov (.r 0)), js 5 (.mov (.r 2))])
  (.seq (jr [jn (.mov (.v 5)), jn (.mov (.v 1)), jn (.mov (.v 2)), jn (.call false w9b [(.r 0), (.r 1), (.r 2)]), jn (.not (.r 3)), jn (.mov (.r 4)), jf 5 (.mov (.v 4)), jf 5 (.bin false .gtr (.r 6) (jc 0)), jf 5 (.mov (.r 7)), jt 8 (.mov (.v 0)), jt 8 (.mov (.v 4)), jt 8 (.bin false .sub (.r 10) (jc 1)), jt 8 (.iaddr 1 (.r 9) (.r 11)), jt 8 (.load false 1 (.r 12)), jt 8 (.mov (.v 5)), jt 8 (.bin false .geq (.r 13) (.r 14)), jf 5 (.pick (.r 8) (.r 15) (.c (.bool false))), js 10 (.pick (.r 5) (.c (.bool true)) (.r 16))])
  (.cond (.v 10) (.seq (jr [js 3 (.mov (.c (.bool false)))])
  .ret) .skip))))
  (jr [jn (.bin false .add (.v 8) (jc 1)), js 8 (.mov (.r 0))])))))))
  (.seq (jr [js 3 (.mov (.c (.bool true)))])
  .ret))),
  [.v 3]⟩
def wcu : IFun := ⟨[0, 1, 2, 4, 14, 16, 17, 18, 19, 52],
  (.seq (jr [js 1 (.box wgm 2 (.v 0)), js 2 (.mov (.c (.bool false)))])
  (.seq (.seq (jr [jn (.faddr 0 (.v 1)), jn (.load false 1 (.r 0)), jn (.call false w9g [(.r 1)]), jn (.not (.r 2)), jn (.mov (.r 3)), jf 4 (.faddr 1 (.v 1)), jf 4 (.load false 1 (.r 5)), jf 4 (.len false (.r 6)), jf 4 (.bin false .gtr (.r 7) (jc 24)), js 4 (.pick (.r 4) (.c (.bool true)) (.r 8))])
  (.cond (.v 4) (.seq (jr [js 2 (.mov (.c (.bool false)))])
  .ret) .skip))
  (.seq (.seq (jr [jn (.faddr 1 (.v 1)), js 5 (.load false 1 (.r 0)), js 6 (.len false (.v 5)), js 7 (.mov (jc 0))])
  (.block 0 (.loop [false, true, false, false, false, true, true, true, false, false] (.seq (jr [js 8 (.bin false .lss (.v 7) (.v 6))])
  (.seq (.cond (.v 8) .skip (.exit 0))
  (.seq (.block 1 (.seq (jr [jn (.iaddr 3 (.v 5) (.v 7)), jn (.load true 3 (.r 0)), js 3 (.alloc wgo [(.nil true 1), (.nil true 1), (.nil true 1)]), jn (.store 3 (.v 3) (.r 1))])
  (.seq (jr [jn (.faddr 0 (.v 3)), jn (.load false 1 (.r 0)), jn (.len false (.r 1)), jn (.bin false .eql (.r 2) (jc 0)), jn (.mov (.r 3)), jf 4 (.faddr 0 (.v 3)), jf 4 (.load false 1 (.r 5)), jf 4 (.faddr 0 (.v 1)), jf 4 (.load false 1 (.r 7)), jf 4 (.bin false .sub (.r 8) (jc 1)), jf 4 (.call false w9i [(.r 6), (jc 0), (.r 9)]), jf 4 (.not (.r 10)), jn (.pick (.r 4) (.c (.bool true)) (.r 11)), jn (.mov (.r 12)), jf 13 (.faddr 1 (.v 3)), jf 13 (.load false 1 (.r 14)), jf 13 (.faddr 0 (.v 1)), jf 13 (.load false 1 (.r 16)), jf 13 (.bin false .sub (.r 17) (jc 1)), jf 13 (.call false w9i [(.r 15), (jc 0), (.r 18)]), jf 13 (.not (.r 19)), jn (.pick (.r 13) (.c (.bool true)) (.r 20)), jn (.mov (.r 21)), jf 22 (.faddr 2 (.v 3)), jf 22 (.load false 1 (.r 23)), jf 22 (.faddr 0 (.v 1)), jf 22 (.load false 1 (.r 25)), jf 22 (.bin false .sub (.r 26) (jc 1)), jf 22 (.call false w9i [(.r 24), (jc 0), (.r 27)]), jf 22 (.not (.r 28)), js 9 (.pick (.r 22) (.c (.bool true)) (.r 29))])
  (.cond (.v 9) (.seq (jr [js 2 (.mov (.c (.bool false)))])
  .ret) .skip))))
  (jr [jn (.bin false .add (.v 7) (jc 1)), js 7 (.mov (.r 0))])))))))
  (.seq (jr [js 2 (.mov (.c (.bool true)))])
  .ret)))),
  [.v 2]⟩
def wds : IFun := ⟨[0, 1, 2, 4, 5, 6, 7, 8, 9, 10, 11, 13, 15, 26, 28, 29, 30, 31, 36, 37, 38, 39, 57, 62, 63, 64, 65],
  (.seq (jr [js 2 (.box wgm 2 (.v 0)), js 3 (.nilrow wgj true 1), js 4 (.nilrow wgj true 1)])
  (.seq (jr [jn (.faddr 0 (.v 2)), jn (.load false 1 (.r 0)), jn (.mk wgj true 1 (.bool false) (.r 1)), js 5 (.mov (.r 2))])
  (.seq (jr [jn (.faddr 1 (.v 2)), jn (.load false 1 (.r 0)), jn (.len false (.r 1)), jn (.mk wgj true 1 (.bool false) (.r 2)), js 6 (.mov (.r 3))])
  (.seq (jr [jn (.mov (.v 5)), jn (.mov (.v 1)), jn (.iaddr 1 (.r 0) (.r 1)), jn (.store 1 (.r 2) (.c (.bool true)))])
  (.seq (.seq (jr [js 7 (.mov (.c (.bool true)))])
  (.block 0 (.loop [false, false, true, false, false, true, true, true, false, false, false, false, false, false, false, false, false, false, false, false, false, false, false, false, false, false, false] (.seq (.seq (jr [js 13 (.mov (.v 7))])
  (.cond (.v 13) .skip (.exit 0)))
  (.block 1 (.seq (jr [js 7 (.mov (.c (.bool false)))])
  (.seq (jr [jn (.faddr 1 (.v 2)), js 14 (.load false 1 (.r 0)), js 15 (.len false (.v 14)), js 16 (.mov (jc 0))])
  (.block 2 (.loop [false, false, true, false, false, true, true, true, false, false, false, false, false, false, true, true, true, false, false, false, false, false, false, false, false, false, false] (.seq (jr [js 17 (.bin false .lss (.v 16) (.v 15))])
  (.seq (.cond (.v 17) .skip (.exit 2))
  (.seq (.block 3 (.seq (jr [jn (.mov (.v 16)), jn (.iaddr 3 (.v 14) (.v 16)), jn (.load true 3 (.r 1)), js 9 (.alloc wgo [(.nil true 1), (.nil true 1), (.nil true 1)]), js 8 (.mov (.r 0)), jn (.store 3 (.v 9) (.r 2))])
  (.seq (jr [js 10 (.mov (.c (.bool false)))])
  (.seq (.seq (jr [jn (.faddr 0 (.v 9)), js 18 (.load false 1 (.r 0)), js 19 (.len false (.v 18)), js 20 (.mov (jc 0))])
  (.block 4 (.loop [false, false, true, false, false, true, true, true, true, true, true, false, false, false, true, true, true, false, true, true, true, false, false, false, false, false, false] (.seq (jr [js 21 (.bin false .lss (.v 20) (.v 19))])
  (.seq (.cond (.v 21) .skip (.exit 4))
  (.seq (.block 5 (.seq (jr [jn (.iaddr 1 (.v 18) (.v 20)), jn (.load false 1 (.r 0)), js 11 (.mov (.r 1))])
  (jr [jn (.mov (.v 10)), jn (.mov (.r 0)), jf 1 (.mov (.v 5)), jf 1 (.mov (.v 11)), jf 1 (.iaddr 1 (.r 2) (.r 3)), jf 1 (.load false 1 (.r 4)), jn (.pick (.r 1) (.c (.bool true)) (.r 5)), js 10 (.mov (.r 6))])))
  (jr [jn (.bin false .add (.v 20) (jc 1)), js 20 (.mov (.r 0))])))))))
  (.seq (.seq (jr [jn (.mov (.v 10)), jn (.not (.r 0)), jn (.mov (.r 1)), jf 2 (.mov (.v 6)), jf 2 (.mov (.v 8)), jf 2 (.iaddr 1 (.r 3) (.r 4)), jf 2 (.load false 1 (.r 5)), js 22 (.pick (.r 2) (.c (.bool true)) (.r 6))])
  (.cond (.v 22) (.exit 3) .skip))
  (.seq (jr [jn (.mov (.v 6)), jn (.mov (.v 8)), jn (.iaddr 1 (.r 0) (.r 1)), jn (.store 1 (.r 2) (.c (.bool true)))])
  (.seq (jr [js 7 (.mov (.c (.bool true)))])
  (.seq (jr [jn (.faddr 1 (.v 9)), js 23 (.load false 1 (.r 0)), js 24 (.len false (.v 23)), js 25 (.mov (jc 0))])
  (.block 6 (.loop [false, false, true, false, false, true, true, true, false, false, false, false, false, false, true, true, true, false, false, false, false, false, false, true, true, true, false] (.seq (jr [js 26 (.bin false .lss (.v 25) (.v 24))])
  (.seq (.cond (.v 26) .skip (.exit 6))
  (.seq (.block 7 (.seq (jr [jn (.iaddr 1 (.v 23) (.v 25)), jn (.load false 1 (.r 0)), js 12 (.mov (.r 1))])
  (jr [jn (.mov (.v 5)), jn (.mov (.v 12)), jn (.iaddr 1 (.r 0) (.r 1)), jn (.store 1 (.r 2) (.c (.bool true)))])))
  (jr [jn (.bin false .add (.v 25) (jc 1)), js 25 (.mov (.r 0))]))))))))))))))
  (jr [jn (.bin false .add (.v 16) (jc 1)), js 16 (.mov (.r 0))])))))))))))))
  (.seq (jr [jn (.mov (.v 5)), jn (.mov (.v 6)), js 3 (.mov (.r 0)), js 4 (.mov (.r 1))])
  .ret)))))),
  [.v 3, .v 4]⟩
def wdq : IFun := ⟨[0, 1, 2, 4, 5, 6, 7, 8, 9, 10, 11, 13, 15, 26, 28, 29, 30, 31, 36, 37, 38, 39, 57, 62, 63, 64, 65],
  (.seq (jr [js 2 (.box wgm 2 (.v 0)), js 3 (.nilrow wgj true 1), js 4 (.nilrow wgj true 1)])
  (.seq (jr [jn (.faddr 0 (.v 2)), jn (.load false 1 (.r 0)), jn (.mk wgj true 1 (.bool false) (.r 1)), js 5 (.mov (.r 2))])
  (.seq (jr [jn (.faddr 1 (.v 2)), jn (.load false 1 (.r 0)), jn (.len false (.r 1)), jn (.mk wgj true 1 (.bool false) (.r 2)), js 6 (.mov (.r 3))])
  (.seq (jr [jn (.mov (.v 5)), jn (.mov (.v 1)), jn (.iaddr 1 (.r 0) (.r 1)), jn (.store 1 (.r 2) (.c (.bool true)))])
  (.seq (.seq (jr [js 7 (.mov (.c (.bool true)))])
  (.block 0 (.loop [false, false, true, false, false, true, true, true, false, false, false, false, false, false, false, false, false, false, false, false, false, false, false, false, false, false, false] (.seq (.seq (jr [js 13 (.mov (.v 7))])
  (.cond (.v 13) .skip (.exit 0)))
  (.block 1 (.seq (jr [js 7 (.mov (.c (.bool false)))])
  (.seq (jr [jn (.faddr 1 (.v 2)), js 14 (.load false 1 (.r 0)), js 15 (.len false (.v 14)), js 16 (.mov (jc 0))])
  (.block 2 (.loop [false, false, true, false, false, true, true, true, false, false, false, false, false, false, true, true, true, false, false, false, false, false, false, false, false, false, false] (.seq (jr [js 17 (.bin false .lss (.v 16) (.v 15))])
  (.seq (.cond (.v 17) .skip (.exit 2))
  (.seq (.block 3 (.seq (jr [jn (.mov (.v 16)), jn (.iaddr 3 (.v 14) (.v 16)), jn (.load true 3 (.r 1)), js 9 (.alloc wgo [(.nil true 1), (.nil true 1), (.nil true 1)]), js 8 (.mov (.r 0)), jn (.store 3 (.v 9) (.r 2))])
  (.seq (jr [js 10 (.mov (.c (.bool false)))])
  (.seq (.seq (jr [jn (.faddr 1 (.v 9)), js 18 (.load false 1 (.r 0)), js 19 (.len false (.v 18)), js 20 (.mov (jc 0))])
  (.block 4 (.loop [false, false, true, false, false, true, true, true, true, true, true, false, false, false, true, true, true, false, true, true, true, false, false, false, false, false, false] (.seq (jr [js 21 (.bin false .lss (.v 20) (.v 19))])
  (.seq (.cond (.v 21) .skip (.exit 4))
  (.seq (.block 5 (.seq (jr [jn (.iaddr 1 (.v 18) (.v 20)), jn (.load false 1 (.r 0)), js 11 (.mov (.r 1))])
  (jr [jn (.mov (.v 10)), jn (.mov (.r 0)), jf 1 (.mov (.v 5)), jf 1 (.mov (.v 11)), jf 1 (.iaddr 1 (.r 2) (.r 3)), jf 1 (.load false 1 (.r 4)), jn (.pick (.r 1) (.c (.bool true)) (.r 5)), js 10 (.mov (.r 6))])))
  (jr [jn (.bin false .add (.v 20) (jc 1)), js 20 (.mov (.r 0))])))))))
  (.seq (.seq (jr [jn (.mov (.v 10)), jn (.not (.r 0)), jn (.mov (.r 1)), jf 2 (.mov (.v 6)), jf 2 (.mov (.v 8)), jf 2 (.iaddr 1 (.r 3) (.r 4)), jf 2 (.load false 1 (.r 5)), js 22 (.pick (.r 2) (.c (.bool true)) (.r 6))])
  (.cond (.v 22) (.exit 3) .skip))
  (.seq (jr [jn (.mov (.v 6)), jn (.mov (.v 8)), jn (.iaddr 1 (.r 0) (.r 1)), jn (.store 1 (.r 2) (.c (.bool true)))])
  (.seq (jr [js 7 (.mov (.c (.bool true)))])
  (.seq (jr [jn (.faddr 0 (.v 9)), js 23 (.load false 1 (.r 0)), js 24 (.len false (.v 23)), js 25 (.mov (jc 0))])
  (.block 6 (.loop [false, false, true, false, false, true, true, true, false, false, false, false, false, false, true, true, true, false, false, false, false, false, false, true, true, true, false] (.seq (jr [js 26 (.bin false .lss (.v 25) (.v 24))])
  (.seq (.cond (.v 26) .skip (.exit 6))
  (.seq (.block 7 (.seq (jr [jn (.iaddr 1 (.v 23) (.v 25)), jn (.load false 1 (.r 0)), js 12 (.mov (.r 1))])
  (jr [jn (.mov (.v 5)), jn (.mov (.v 12)), jn (.iaddr 1 (.r 0) (.r 1)), jn (.store 1 (.r 2) (.c (.bool true)))])))
  (jr [jn (.bin false .add (.v 25) (jc 1)), js 25 (.mov (.r 0))]))))))))))))))
  (jr [jn (.bin false .add (.v 16) (jc 1)), js 16 (.mov (.r 0))])))))))))))))
  (.seq (jr [jn (.mov (.v 5)), jn (.mov (.v 6)), js 3 (.mov (.r 0)), js 4 (.mov (.r 1))])
  .ret)))))),
  [.v 3, .v 4]⟩
def wdr : IFun := ⟨[0, 1, 4, 5, 6, 8, 9, 10, 21],
  (.seq (jr [js 2 (.nilrow t_int true 1)])
  (.seq (jr [js 3 (.nilrow t_int true 1)])
  (.seq (.seq (jr [jn (.mov (.v 0)), js 5 (.len false (.r 0)), js 6 (.mov (jc 0))])
  (.block 0 (.loop [true, true, false, true, false, true, true, false, false] (.seq (jr [js 7 (.bin false .lss (.v 6) (.v 5))])
  (.seq (.cond (.v 7) .skip (.exit 0))
  (.seq (.block 1 (.seq (jr [jn (.mov (.v 6)), js 4 (.mov (.r 0))])
  (.seq (jr [jn (.mov (.v 0)), jn (.mov (.v 4)), jn (.iaddr 1 (.r 0) (.r 1)), jn (.load false 1 (.r 2)), jn (.mov (.r 3)), jt 4 (.mov (.v 1)), jt 4 (.mov (.v 4)), jt 4 (.iaddr 1 (.r 5) (.r 6)), jt 4 (.load false 1 (.r 7)), js 8 (.pick (.r 4) (.r 8) (.c (.bool false)))])
  (.cond (.v 8) (jr [jn (.mov (.v 3)), jn (.mov (.v 4)), jn (.bslice false t_int true 1 [(.r 1)]), jn (.append t_int true 1 (.r 0) (.r 2)), js 3 (.mov (.r 3))]) .skip))))
  (jr [jn (.bin false .add (.v 6) (jc 1)), js 6 (.mov (.r 0))])))))))
  (.seq (jr [jn (.mov (.v 3)), js 2 (.mov (.r 0))])
  .ret)))),
  [.v 2]⟩
def wcv : IFun := ⟨[0, 1, 2, 3, 6, 7, 8, 9, 10, 11, 12, 31],
  (.seq (jr [js 3 (.box wgm 2 (.v 0)), js 4 (.nilrow t_int true 1), js 5 (.nilrow t_int true 1), js 6 (.mov (.c (.bool false)))])
  (.seq (.seq (jr [jn (.load true 2 (.v 3)), jn (.call false w8s [(.r 0)]), jn (.not (.r 1)), jn (.mov (.r 2)), jf 3 (.mov (.v 1)), jf 3 (.faddr 0 (.v 3)), jf 3 (.load false 1 (.r 5)), jf 3 (.bin false .sub (.r 6) (jc 1)), jf 3 (.call false w9b [(.r 4), (jc 0), (.r 7)]), jf 3 (.not (.r 8)), jn (.pick (.r 3) (.c (.bool true)) (.r 9)), jn (.mov (.r 10)), jf 11 (.mov (.v 2)), jf 11 (.faddr 0 (.v 3)), jf 11 (.load false 1 (.r 13)), jf 11 (.bin false .sub (.r 14) (jc 1)), jf 11 (.call false w9b [(.r 12), (jc 0), (.r 15)]), jf 11 (.not (.r 16)), js 11 (.pick (.r 11) (.c (.bool true)) (.r 17))])
  (.cond (.v 11) (.seq (jr [js 4 (.nilrow t_int true 1), js 5 (.nilrow t_int true 1), js 6 (.mov (.c (.bool false)))])
  .ret) .skip))
  (.seq (jr [jn (.load true 2 (.v 3)), jn (.mov (.v 1)), jn (.call false w9q [(.r 0), (.r 1)]), jn (.mov (.r 2)), jn (.extract (.r 3) 0), jn (.extract (.r 3) 1), js 7 (.mov (.r 4)), js 8 (.mov (.r 5))])
  (.seq (jr [jn (.load true 2 (.v 3)), jn (.mov (.v 2)), jn (.call false w9o [(.r 0), (.r 1)]), jn (.mov (.r 2)), jn (.extract (.r 3) 0), jn (.extract (.r 3) 1), js 9 (.mov (.r 4)), js 10 (.mov (.r 5))])
  (.seq (jr [jn (.mov (.v 7)), jn (.mov (.v 9)), jn (.call false w9p [(.r 0), (.r 1)]), jn (.mov (.v 8)), jn (.mov (.v 10)), jn (.call false w9p [(.r 3), (.r 4)]), js 4 (.mov (.r 2)), js 5 (.mov (.r 5)), js 6 (.mov (.c (.bool true)))])
  .ret))))),
  [.v 4, .v 5, .v 6]⟩
def wdc : IFun := ⟨[0, 1, 4, 6, 7, 8, 9, 10, 15],
  (.seq (jr [js 2 (.mov (.c (.bool false)))])
  (.seq (.seq (jr [js 4 (.mov (.v 0)), js 5 (.len false (.v 4)), js 6 (.mov (jc 0))])
  (.block 0 (.loop [false, true, false, false, true, true, true, false, false] (.seq (jr [js 7 (.bin false .lss (.v 6) (.v 5))])
  (.seq (.cond (.v 7) .skip (.exit 0))
  (.seq (.block 1 (.seq (jr [jn (.iaddr 1 (.v 4) (.v 6)), jn (.load false 1 (.r 0)), js 3 (.mov (.r 1))])
  (.seq (jr [jn (.mov (.v 3)), jn (.mov (.v 1)), js 8 (.bin false .eql (.r 0) (.r 1))])
  (.cond (.v 8) (.seq (jr [js 2 (.mov (.c (.bool true)))])
  .ret) .skip))))
  (jr [jn (.bin false .add (.v 6) (jc 1)), js 6 (.mov (.r 0))])))))))
  (.seq (jr [js 2 (.mov (.c (.bool false)))])
  .ret))),
  [.v 2]⟩
def wcs : IFun := ⟨[0, 1, 2, 3, 4, 5, 7, 44, 47, 48, 49, 50, 78],
  (.seq (jr [js 1 (.box wgl 4 (.v 0)), js 2 (.mov (.c (.bool false)))])
  (.seq (jr [jn (.faddr 0 (.v 1)), jn (.load true 2 (.r 0)), jn (.faddr 2 (.v 1)), jn (.load false 1 (.r 2)), jn (.faddr 3 (.v 1)), jn (.load false 1 (.r 4)), jn (.call false w8t [(.r 1), (.r 3), (.r 5)]), jn (.mov (.r 6)), jn (.extract (.r 7) 0), jn (.extract (.r 7) 1), jn (.extract (.r 7) 2), js 3 (.mov (.r 8)), js 4 (.mov (.r 9)), js 5 (.mov (.r 10))])
  (.seq (.seq (jr [jn (.mov (.v 5)), jn (.not (.r 0)), jn (.mov (.r 1)), jf 2 (.faddr 2 (.v 1)), jf 2 (.load false 1 (.r 3)), jf 2 (.faddr 3 (.v 1)), jf 2 (.load false 1 (.r 5)), jf 2 (.bin false .eql (.r 4) (.r 6)), jn (.pick (.r 2) (.c (.bool true)) (.r 7)), jn (.mov (.r 8)), jf 9 (.mov (.v 3)), jf 9 (.len false (.r 10)), jf 9 (.faddr 0 (.v 1)), jf 9 (.faddr 0 (.r 12)), jf 9 (.load false 1 (.r 13)), jf 9 (.bin false .neq (.r 11) (.r 14)), jn (.pick (.r 9) (.c (.bool true)) (.r 15)), jn (.mov (.r 16)), jf 17 (.mov (.v 4)), jf 17 (.len false (.r 18)), jf 17 (.faddr 0 (.v 1)), jf 17 (.faddr 1 (.r 20)), jf 17 (.load false 1 (.r 21)), jf 17 (.len false (.r 22)), jf 17 (.bin false .neq (.r 19) (.r 23)), js 7 (.pick (.r 17) (.c (.bool true)) (.r 24))])
  (.cond (.v 7) (.seq (jr [js 2 (.mov (.c (.bool false)))])
  .ret) .skip))
  (.seq (.seq (jr [jn (.faddr 0 (.v 1)), jn (.faddr 1 (.r 0)), js 8 (.load false 1 (.r 1)), js 9 (.len false (.v 8)), js 10 (.mov (jc 0))])
  (.block 0 (.loop [false, true, false, false, false, false, false, false, true, true, true, false, false] (.seq (jr [js 11 (.bin false .lss (.v 10) (.v 9))])
  (.seq (.cond (.v 11) .skip (.exit 0))
  (.seq (.block 1 (.seq (jr [jn (.iaddr 3 (.v 8) (.v 10)), jn (.load true 3 (.r 0)), js 6 (.alloc wgo [(.nil true 1), (.nil true 1), (.nil true 1)]), jn (.store 3 (.v 6) (.r 1))])
  (.seq (jr [jn (.faddr 1 (.v 6)), jn (.load false 1 (.r 0)), jn (.faddr 2 (.v 1)), jn (.load false 1 (.r 2)), jn (.call false w9a [(.r 1), (.r 3)]), jn (.mov (.r 4)), jf 5 (.faddr 0 (.v 6)), jf 5 (.load false 1 (.r 6)), jf 5 (.faddr 3 (.v 1)), jf 5 (.load false 1 (.r 8)), jf 5 (.call false w9a [(.r 7), (.r 9)]), jn (.pick (.r 5) (.c (.bool true)) (.r 10)), jn (.mov (.r 11)), jf 12 (.faddr 2 (.v 6)), jf 12 (.load false 1 (.r 13)), jf 12 (.faddr 2 (.v 1)), jf 12 (.load false 1 (.r 15)), jf 12 (.call false w9a [(.r 14), (.r 16)]), jn (.pick (.r 12) (.c (.bool true)) (.r 17)), jn (.mov (.r 18)), jf 19 (.faddr 2 (.v 6)), jf 19 (.load false 1 (.r 20)), jf 19 (.faddr 3 (.v 1)), jf 19 (.load false 1 (.r 22)), jf 19 (.call false w9a [(.r 21), (.r 23)]), js 12 (.pick (.r 19) (.c (.bool true)) (.r 24))])
  (.cond (.v 12) (.seq (jr [js 2 (.mov (.c (.bool false)))])
  .ret) .skip))))
  (jr [jn (.bin false .add (.v 10) (jc 1)), js 10 (.mov (.r 0))])))))))
  (.seq (jr [js 2 (.mov (.c (.bool true)))])
  .ret))))),
  [.v 2]⟩
def wdt : IFun := ⟨[0, 1, 4, 5],
  (.seq (jr [js 2 (.nilrow t_int true 1)])
  (.seq (jr [jn (.mov (.v 0)), jn (.mk t_int true 1 (.int .i64 0) (.r 0)), js 3 (.mov (.r 1))])
  (.seq (jr [jn (.mov (.v 3)), jn (.mov (.v 1)), jn (.iaddr 1 (.r 0) (.r 1)), jn (.store 1 (.r 2) (jc 1))])
  (.seq (jr [jn (.mov (.v 3)), js 2 (.mov (.r 0))])
  .ret)))),
  [.v 2]⟩
def wcw : IFun := ⟨[0, 1, 2, 3, 6],
  (.seq (jr [js 1 (.box wgl 4 (.v 0)), js 2 (.nilrow t_int true 1), js 3 (.mov (.c (.bool false)))])
  (.seq (.seq (jr [jn (.load true 4 (.v 1)), jn (.call false w8q [(.r 0)]), js 4 (.not (.r 1))])
  (.cond (.v 4) (.seq (jr [js 2 (.nilrow t_int true 1), js 3 (.mov (.c (.bool false)))])
  .ret) .skip))
  (.seq (jr [jn (.faddr 0 (.v 1)), jn (.faddr 0 (.r 0)), jn (.load false 1 (.r 1)), jn (.faddr 2 (.v 1)), jn (.load false 1 (.r 3)), jn (.call false w9r [(.r 2), (.r 4)]), js 2 (.mov (.r 5)), js 3 (.mov (.c (.bool true)))])
  .ret))),
  [.v 2, .v 3]⟩
def wd6 : IFun := ⟨[0, 1, 4, 5, 6, 7, 16, 32, 45, 46, 52, 58],
  (.seq (jr [js 2 (.alloc wgm [(.int .i64 0), (.nil false 3)])])
  (.seq (jr [jn (.mov (.v 0)), jn (.callm w97 [(.r 0), (jc 4)]), jn (.bin false .add (jc 2) (.r 1)), jn (.build [(.int .i64 0), (.nil false 3)] [(0, 1, (.r 2))]), js 3 (.alloc wgm [(.int .i64 0), (.nil false 3)]), jn (.store 2 (.v 3) (.r 3))])
  (.seq (.seq (jr [jn (.mov (.v 0)), jn (.callm w97 [(.r 0), (jc 5)]), jn (.bin false .add (jc 1) (.r 1)), js 4 (.mov (.r 2))])
  (.block 0 (.loop [true, true, true, true, true, false, false, false, false, false, false, false] (.seq (.seq (jr [jn (.mov (.v 4)), js 6 (.bin false .gtr (.r 0) (jc 0))])
  (.cond (.v 6) .skip (.exit 0)))
  (.seq (.block 1 (.seq (.region true [(7, 5)] [jn (.mov (.v 0)), jn (.faddr 0 (.v 3)), jn (.load false 1 (.r 1)), jn (.mov (.v 0)), jn (.faddr 0 (.v 3)), jn (.load false 1 (.r 4)), js 5 (.alloc wgo [(.nil true 1), (.nil true 1), (.nil true 1)]), jn (.callm w98 [(.r 0), (.r 2), (jc 1), (jc 2)]), jn (.callm w98 [(.r 3), (.r 5), (jc 0), (jc 2)]), jn (.build [(.nil true 1), (.nil true 1), (.nil true 1)] [(0, 1, (.r 7)), (1, 1, (.r 8))]), jn (.store 3 (.v 5) (.r 9))])
  (.seq (.seq (jr [jn (.mov (.v 1)), jn (.mov (.r 0)), jt 1 (.mov (.v 0)), jt 1 (.callm w96 [(.r 2), (jc 5)]), js 7 (.pick (.r 1) (.r 3) (.c (.bool false)))])
  (.cond (.v 7) (jr [jn (.mov (.v 0)), jn (.faddr 0 (.v 3)), jn (.load false 1 (.r 1)), jn (.callm w98 [(.r 0), (.r 2), (jc 1), (jc 2)]), jn (.faddr 2 (.v 5)), jn (.store 1 (.r 4) (.r 3))]) .skip))
  (jr [jn (.faddr 1 (.v 3)), jn (.load false 1 (.r 0)), jn (.load true 3 (.v 5)), jn (.bslice false wgo false 3 [(.r 2)]), jn (.append wgo false 3 (.r 1) (.r 3)), jn (.faddr 1 (.v 3)), jn (.store 1 (.r 5) (.r 4))]))))
  (jr [jn (.mov (.v 4)), jn (.bin false .sub (.r 0) (jc 1)), js 4 (.mov (.r 1))]))))))
  (.seq (.seq (jr [jn (.mov (.v 0)), js 8 (.callm w97 [(.r 0), (jc 40)])])
  (.block 2 (.seq (jr [jn (.bin false .eql (.v 8) (jc 0)), js 9 (.mov (.r 0))])
  (.cond (.v 9) (jr [jn (.mov (.v 0)), jn (.bslice false t_int true 1 [(jc 0), (jc 1), (jc 17)]), jn (.callm w8y [(.r 0), (.r 1)]), jn (.faddr 0 (.v 3)), jn (.store 1 (.r 3) (.r 2))]) (.seq (jr [jn (.bin false .eql (.v 8) (jc 1)), js 10 (.mov (.r 0))])
  (.cond (.v 10) (jr [jn (.faddr 1 (.v 3)), jn (.load false 1 (.r 0)), jn (.iaddr 3 (.r 1) (jc 0)), jn (.faddr 0 (.r 2)), jn (.store 1 (.r 3) (.c (.nil true 1)))]) (.seq (jr [jn (.bin false .eql (.v 8) (jc 2)), js 11 (.mov (.r 0))])
  (.cond (.v 11) (jr [jn (.faddr 1 (.v 3)), jn (.load false 1 (.r 0)), jn (.bslice false t_int true 1 [(jc 1), (jc 0)]), jn (.iaddr 3 (.r 1) (jc 0)), jn (.faddr 1 (.r 3)), jn (.store 1 (.r 4) (.r 2))]) .skip))))))))
  (.seq (jr [jn (.load true 2 (.v 3)), jn (.store 2 (.v 2) (.r 0))])
  .ret))))),
  [.cell true 2 2]⟩
def wdg : IFun := ⟨[0, 1, 4, 7],
  (.seq (jr [js 2 (.mov (jc 0))])
  (.seq (.seq (jr [jn (.mov (.v 0)), jn (.mov (.v 1)), js 3 (.bin false .gtr (.r 0) (.r 1))])
  (.cond (.v 3) (.seq (jr [jn (.mov (.v 0)), js 2 (.mov (.r 0))])
  .ret) .skip))
  (.seq (jr [jn (.mov (.v 1)), js 2 (.mov (.r 0))])
  .ret))),
  [.v 2]⟩
def wd4 : IFun := ⟨[0, 1, 3, 4, 5, 6, 10, 26],
  (.seq (jr [js 2 (.box wgm 2 (.v 1)), js 3 (.nilrow t_int true 1)])
  (.seq (jr [js 4 (.nilrow t_int true 1)])
  (.seq (.seq (jr [js 5 (.mov (jc 0))])
  (.block 0 (.loop [true, false, true, false, true, true, false, false] (.seq (.seq (jr [jn (.mov (.v 5)), jn (.faddr 0 (.v 2)), jn (.load false 1 (.r 1)), js 6 (.bin false .lss (.r 0) (.r 2))])
  (.cond (.v 6) .skip (.exit 0)))
  (.seq (.block 1 (jr [jn (.mov (.v 4)), jn (.mov (.v 0)), jn (.callm w97 [(.r 1), (jc 4)]), jn (.bin false .sub (.r 2) (jc 1)), jn (.call false w9e [(jc 0), (.r 3)]), jn (.bslice false t_int true 1 [(.r 4)]), jn (.append t_int true 1 (.r 0) (.r 5)), js 4 (.mov (.r 6))]))
  (jr [jn (.mov (.v 5)), jn (.bin false .add (.r 0) (jc 1)), js 5 (.mov (.r 1))]))))))
  (.seq (.seq (jr [jn (.mov (.v 0)), jn (.callm w96 [(.r 0), (jc 30)]), jn (.mov (.r 1)), jt 2 (.mov (.v 4)), jt 2 (.len false (.r 3)), jt 2 (.bin false .gtr (.r 4) (jc 0)), js 7 (.pick (.r 2) (.r 5) (.c (.bool false)))])
  (.cond (.v 7) (jr [jn (.mov (.v 4)), jn (.mov (.v 0)), jn (.bslice false t_int true 1 [(jc 50), (jc 51), (jc (-1))]), jn (.callm w8y [(.r 1), (.r 2)]), jn (.iaddr 1 (.r 0) (jc 0)), jn (.store 1 (.r 4) (.r 3))]) .skip))
  (.seq (jr [jn (.mov (.v 4)), js 3 (.mov (.r 0))])
  .ret))))),
  [.v 3]⟩
def wdb : IFun := ⟨[0, 2, 3, 4, 5, 6, 7, 8, 9, 11, 19, 26, 27, 28, 29, 44],
  (.seq (jr [js 1 (.alloc wgm [(.int .i64 0), (.nil false 3)]), js 2 (.nilrow t_int true 1)])
  (.seq (.seq (jr [jn (.mov (.v 0)), js 9 (.callm w96 [(.r 0), (jc 3)])])
  (.cond (.v 9) (.seq (jr [jn (.mov (.v 0)), jn (.callm w90 [(.r 0), (.c (.bool true))]), js 3 (.alloc wgl [(.int .i64 0), (.nil false 3), (.int .i64 0), (.int .i64 0)]), jn (.store 4 (.v 3) (.r 1))])
  (.seq (jr [jn (.load true 4 (.v 3)), jn (.call false w8u [(.r 0)]), jn (.mov (.r 1)), jn (.extract (.r 2) 0), jn (.extract (.r 2) 1), js 4 (.mov (.r 3)), js 5 (.mov (.r 4))])
  (.seq (jr [js 10 (.mov (.v 5))])
  (.cond (.v 10) (.seq (jr [jn (.faddr 0 (.v 3)), jn (.load true 2 (.r 0)), jn (.mov (.v 4)), jn (.store 2 (.v 1) (.r 1)), js 2 (.mov (.r 2))])
  .ret) .skip)))) .skip))
  (.seq (jr [jn (.mov (.v 0)), jn (.callm w94 [(.r 0), (.c (.bool true))]), js 6 (.alloc wgm [(.int .i64 0), (.nil false 3)]), jn (.store 2 (.v 6) (.r 1))])
  (.seq (.seq (jr [jn (.faddr 1 (.v 6)), js 11 (.load false 1 (.r 0)), js 12 (.len false (.v 11)), js 13 (.mov (jc 0))])
  (.block 0 (.loop [true, true, false, false, false, false, true, false, false, false, false, true, true, true, false, false] (.seq (jr [js 14 (.bin false .lss (.v 13) (.v 12))])
  (.seq (.cond (.v 14) .skip (.exit 0))
  (.seq (.block 1 (.seq (jr [jn (.mov (.v 13)), jn (.iaddr 3 (.v 11) (.v 13)), jn (.load true 3 (.r 1)), js 8 (.alloc wgo [(.nil true 1), (.nil true 1), (.nil true 1)]), js 7 (.mov (.r 0)), jn (.store 3 (.v 8) (.r 2))])
  (.seq (jr [jn (.faddr 1 (.v 8)), jn (.load false 1 (.r 0)), jn (.len false (.r 1)), jn (.faddr 0 (.v 8)), jn (.load false 1 (.r 3)), jn (.len false (.r 4)), jn (.bin false .gtr (.r 2) (.r 5)), jn (.mov (.r 6)), jt 7 (.mov (.v 0)), jt 7 (.callm w96 [(.r 8), (jc 6)]), jt 7 (.not (.r 9)), js 15 (.pick (.r 7) (.r 10) (.c (.bool false)))])
  (.cond (.v 15) (.region true [] [jn (.faddr 1 (.v 6)), jn (.load false 1 (.r 0)), jn (.mov (.v 7)), jn (.faddr 1 (.v 8)), jn (.load false 1 (.r 3)), jn (.faddr 0 (.v 8)), jn (.load false 1 (.r 5)), jn (.len false (.r 6)), jn (.slice 1 (.r 4) none (some (.r 7))), jn (.iaddr 3 (.r 1) (.r 2)), jn (.faddr 1 (.r 9)), jn (.store 1 (.r 10) (.r 8))]) .skip))))
  (jr [jn (.bin false .add (.v 13) (jc 1)), js 13 (.mov (.r 0))])))))))
  (.seq (.region true [(3, 0)] [jn (.load true 2 (.v 6)), jn (.mov (.v 0)), jn (.load true 2 (.v 6)), jn (.callm w92 [(.r 1), (.r 2)]), jn (.store 2 (.v 1) (.r 0)), js 2 (.mov (.r 3))])
  .ret))))),
  [.cell true 2 1, .v 2]⟩
def wdh : IFun := ⟨[0, 2],
  (.seq (jr [js 1 (.nilrow t_int true 1)])
  (.seq (jr [jn (.bslice false t_int true 1 []), jn (.mov (.v 0)), jn (.append t_int true 1 (.r 0) (.r 1)), js 1 (.mov (.r 2))])
  .ret)),
  [.v 1]⟩
def wcx : IFun := ⟨[0, 1, 2, 6, 8, 9, 10, 11, 12, 19],
  (.seq (jr [js 3 (.mov (.c (.bool false)))])
  (.seq (.seq (jr [js 5 (.mov (.v 0)), js 6 (.len false (.v 5)), js 7 (.mov (jc 0))])
  (.block 0 (.loop [false, true, true, false, false, true, true, true, false, false] (.seq (jr [js 8 (.bin false .lss (.v 7) (.v 6))])
  (.seq (.cond (.v 8) .skip (.exit 0))
  (.seq (.block 1 (.seq (jr [jn (.iaddr 1 (.v 5) (.v 7)), jn (.load false 1 (.r 0)), js 4 (.mov (.r 1))])
  (.seq (jr [jn (.mov (.v 4)), jn (.mov (.v 1)), jn (.mov (.v 2)), jn (.call false w9b [(.r 0), (.r 1), (.r 2)]), js 9 (.not (.r 3))])
  (.cond (.v 9) (.seq (jr [js 3 (.mov (.c (.bool false)))])
  .ret) .skip))))
  (jr [jn (.bin false .add (.v 7) (jc 1)), js 7 (.mov (.r 0))])))))))
  (.seq (jr [js 3 (.mov (.c (.bool true)))])
  .ret))),
  [.v 3]⟩
def wct : IFun := ⟨[0, 1, 4],
  (.seq (jr [js 2 (.mov (.c (.bool false)))])
  (.seq (jr [jn (.mov (.v 0)), jn (.call false w9g [(.r 0)]), jn (.mov (.r 1)), jt 2 (.mov (.v 1)), jt 2 (.len false (.r 3)), jt 2 (.mov (.v 0)), jt 2 (.bin false .eql (.r 4) (.r 5)), jn (.pick (.r 2) (.r 6) (.c (.bool false))), jn (.mov (.r 7)), jt 8 (.mov (.v 1)), jt 8 (.call false w8v [(.r 9), (jc 0), (jc 50)]), jn (.pick (.r 8) (.r 10) (.c (.bool false))), js 2 (.mov (.r 11))])
  .ret)),
  [.v 2]⟩
def wdp : IFun := ⟨[0, 1, 2, 4],
  (.seq (jr [js 2 (.box wgm 2 (.v 0)), js 3 (.mov (.c (.bool false)))])
  (.seq (jr [jn (.load true 2 (.v 2)), jn (.call false w8s [(.r 0)]), jn (.mov (.r 1)), jt 2 (.faddr 0 (.v 2)), jt 2 (.load false 1 (.r 3)), jt 2 (.mov (.v 1)), jt 2 (.call false w8r [(.r 4), (.r 5)]), jn (.pick (.r 2) (.r 6) (.c (.bool false))), js 3 (.mov (.r 7))])
  .ret)),
  [.v 3]⟩
def wdm : IFun := ⟨[0, 1, 2, 4, 6, 8, 9, 10, 11, 18],
  (.seq (jr [js 2 (.box wgo 3 (.v 0)), js 3 (.mov (.c (.bool false)))])
  (.seq (.seq (jr [jn (.faddr 0 (.v 2)), js 5 (.load false 1 (.r 0)), js 6 (.len false (.v 5)), js 7 (.mov (jc 0))])
  (.block 0 (.loop [false, true, false, false, false, true, true, true, false, false] (.seq (jr [js 8 (.bin false .lss (.v 7) (.v 6))])
  (.seq (.cond (.v 8) .skip (.exit 0))
  (.seq (.block 1 (.seq (jr [jn (.iaddr 1 (.v 5) (.v 7)), jn (.load false 1 (.r 0)), js 4 (.mov (.r 1))])
  (.seq (jr [jn (.mov (.v 1)), jn (.mov (.v 4)), jn (.iaddr 1 (.r 0) (.r 1)), jn (.load false 1 (.r 2)), js 9 (.bin false .eql (.r 3) (jc 0))])
  (.cond (.v 9) (.seq (jr [js 3 (.mov (.c (.bool false)))])
  .ret) .skip))))
  (jr [jn (.bin false .add (.v 7) (jc 1)), js 7 (.mov (.r 0))])))))))
  (.seq (jr [js 3 (.mov (.c (.bool true)))])
  .ret))),
  [.v 3]⟩
def wdn : IFun := ⟨[0, 1, 2, 4, 5, 6, 7, 9, 10, 11, 12, 18],
  (.seq (jr [js 2 (.box wgm 2 (.v 0)), js 3 (.nilrow t_int true 1)])
  (.seq (jr [js 4 (.nilrow t_int true 1)])
  (.seq (.seq (jr [jn (.faddr 1 (.v 2)), js 7 (.load false 1 (.r 0)), js 8 (.len false (.v 7)), js 9 (.mov (jc 0))])
  (.block 0 (.loop [false, true, false, false, true, false, false, true, true, true, false, false] (.seq (jr [js 10 (.bin false .lss (.v 9) (.v 8))])
  (.seq (.cond (.v 10) .skip (.exit 0))
  (.seq (.block 1 (.seq (jr [jn (.mov (.v 9)), jn (.iaddr 3 (.v 7) (.v 9)), jn (.load true 3 (.r 1)), js 6 (.alloc wgo [(.nil true 1), (.nil true 1), (.nil true 1)]), js 5 (.mov (.r 0)), jn (.store 3 (.v 6) (.r 2))])
  (.seq (jr [jn (.load true 3 (.v 6)), jn (.mov (.v 1)), js 11 (.call false w9k [(.r 0), (.r 1)])])
  (.cond (.v 11) (jr [jn (.mov (.v 4)), jn (.mov (.v 5)), jn (.bslice false t_int true 1 [(.r 1)]), jn (.append t_int true 1 (.r 0) (.r 2)), js 4 (.mov (.r 3))]) .skip))))
  (jr [jn (.bin false .add (.v 9) (jc 1)), js 9 (.mov (.r 0))])))))))
  (.seq (jr [jn (.mov (.v 4)), js 3 (.mov (.r 0))])
  .ret)))),
  [.v 3]⟩
def wcq : IFun := ⟨[0, 1, 2, 4, 5, 9],
  (.seq (jr [js 2 (.box wgm 2 (.v 0)), js 3 (.nilrow t_int true 1), js 4 (.mov (.c (.bool false)))])
  (.seq (.seq (jr [jn (.load true 2 (.v 2)), jn (.mov (.v 1)), jn (.call false w9n [(.r 0), (.r 1)]), js 5 (.not (.r 2))])
  (.cond (.v 5) (.seq (jr [js 3 (.nilrow t_int true 1), js 4 (.mov (.c (.bool false)))])
  .ret) .skip))
  (.seq (jr [jn (.load true 2 (.v 2)), jn (.mov (.v 1)), jn (.call false w9l [(.r 0), (.r 1)]), js 3 (.mov (.r 2)), js 4 (.mov (.c (.bool true)))])
  .ret))),
  [.v 3, .v 4]⟩
def wdo : IFun := ⟨[0, 1, 2, 4, 5, 7, 9, 11, 15, 16, 17, 18, 29, 30, 31, 32, 40, 41, 42, 43],
  (.seq (jr [js 2 (.box wgo 3 (.v 0)), js 3 (.nilrow t_int true 1)])
  (.seq (jr [jn (.mov (.v 1)), jn (.call false w9f [(.r 0)]), js 4 (.mov (.r 1))])
  (.seq (.seq (jr [jn (.faddr 0 (.v 2)), js 8 (.load false 1 (.r 0)), js 9 (.len false (.v 8)), js 10 (.mov (jc 0))])
  (.block 0 (.loop [false, false, true, false, true, false, false, false, true, true, true, false, false, false, false, false, false, false, false, false] (.seq (jr [js 11 (.bin false .lss (.v 10) (.v 9))])
  (.seq (.cond (.v 11) .skip (.exit 0))
  (.seq (.block 1 (.seq (jr [jn (.iaddr 1 (.v 8) (.v 10)), jn (.load false 1 (.r 0)), js 5 (.mov (.r 1))])
  (jr [jn (.mov (.v 4)), jn (.mov (.v 5)), jn (.iaddr 1 (.r 0) (.r 1)), jn (.load false 1 (.r 2)), jn (.bin false .sub (.r 3) (jc 1)), jn (.iaddr 1 (.r 0) (.r 1)), jn (.store 1 (.r 5) (.r 4))])))
  (jr [jn (.bin false .add (.v 10) (jc 1)), js 10 (.mov (.r 0))])))))))
  (.seq (.seq (jr [jn (.faddr 2 (.v 2)), js 12 (.load false 1 (.r 0)), js 13 (.len false (.v 12)), js 14 (.mov (jc 0))])
  (.block 2 (.loop [false, false, true, false, true, false, false, false, false, false, false, false, true, true, true, false, false, false, false, false] (.seq (jr [js 15 (.bin false .lss (.v 14) (.v 13))])
  (.seq (.cond (.v 15) .skip (.exit 2))
  (.seq (.block 3 (.seq (jr [jn (.iaddr 1 (.v 12) (.v 14)), jn (.load false 1 (.r 0)), js 6 (.mov (.r 1))])
  (jr [jn (.mov (.v 4)), jn (.mov (.v 6)), jn (.iaddr 1 (.r 0) (.r 1)), jn (.store 1 (.r 2) (jc 0))])))
  (jr [jn (.bin false .add (.v 14) (jc 1)), js 14 (.mov (.r 0))])))))))
  (.seq (.seq (jr [jn (.faddr 1 (.v 2)), js 16 (.load false 1 (.r 0)), js 17 (.len false (.v 16)), js 18 (.mov (jc 0))])
  (.block 4 (.loop [false, false, false, false, true, false, false, false, false, false, false, false, false, false, false, false, true, true, true, false] (.seq (jr [js 19 (.bin false .lss (.v 18) (.v 17))])
  (.seq (.cond (.v 19) .skip (.exit 4))
  (.seq (.block 5 (.seq (jr [jn (.iaddr 1 (.v 16) (.v 18)), jn (.load false 1 (.r 0)), js 7 (.mov (.r 1))])
  (jr [jn (.mov (.v 4)), jn (.mov (.v 7)), jn (.iaddr 1 (.r 0) (.r 1)), jn (.load false 1 (.r 2)), jn (.bin false .add (.r 3) (jc 1)), jn (.iaddr 1 (.r 0) (.r 1)), jn (.store 1 (.r 5) (.r 4))])))
  (jr [jn (.bin false .add (.v 18) (jc 1)), js 18 (.mov (.r 0))])))))))
  (.seq (jr [jn (.mov (.v 4)), js 3 (.mov (.r 0))])
  .ret)))))),
  [.v 3]⟩
def wcr : IFun := ⟨[0, 1, 2, 3, 6, 7, 8, 31, 43],
  (.seq (jr [js 3 (.box wgm 2 (.v 0)), js 4 (.nilrow t_int true 1), js 5 (.mov (.c (.bool false)))])
  (.seq (.seq (jr [jn (.load true 2 (.v 3)), jn (.mov (.v 1)), jn (.call false w9n [(.r 0), (.r 1)]), jn (.not (.r 2)), jn (.mov (.r 3)), jf 4 (.mov (.v 2)), jf 4 (.faddr 1 (.v 3)), jf 4 (.load false 1 (.r 6)), jf 4 (.len false (.r 7)), jf 4 (.bin false .sub (.r 8) (jc 1)), jf 4 (.call false w9b [(.r 5), (jc 0), (.r 9)]), jf 4 (.not (.r 10)), jn (.pick (.r 4) (.c (.bool true)) (.r 11)), jn (.mov (.r 12)), jf 13 (.faddr 1 (.v 3)), jf 13 (.load false 1 (.r 14)), jf 13 (.mov (.v 2)), jf 13 (.iaddr 3 (.r 15) (.r 16)), jf 13 (.load true 3 (.r 17)), jf 13 (.mov (.v 1)), jf 13 (.call false w9k [(.r 18), (.r 19)]), jf 13 (.not (.r 20)), js 7 (.pick (.r 13) (.c (.bool true)) (.r 21))])
  (.cond (.v 7) (.seq (jr [js 4 (.nilrow t_int true 1), js 5 (.mov (.c (.bool false)))])
  .ret) .skip))
  (.seq (jr [jn (.faddr 1 (.v 3)), jn (.load false 1 (.r 0)), jn (.mov (.v 2)), jn (.iaddr 3 (.r 1) (.r 2)), jn (.load true 3 (.r 3)), jn (.mov (.v 1)), jn (.call false w9m [(.r 4), (.r 5)]), js 6 (.mov (.r 6))])
  (.seq (.seq (jr [jn (.faddr 0 (.v 3)), jn (.load false 1 (.r 0)), jn (.mov (.v 6)), jn (.call false w8r [(.r 1), (.r 2)]), js 8 (.not (.r 3))])
  (.cond (.v 8) (.seq (jr [js 4 (.nilrow t_int true 1), js 5 (.mov (.c (.bool false)))])
  .ret) .skip))
  (.seq (jr [jn (.mov (.v 6)), js 4 (.mov (.r 0)), js 5 (.mov (.c (.bool true)))])
  .ret))))),
  [.v 4, .v 5]⟩
def wd5 : IFun := ⟨[0, 1, 2, 4, 6, 7, 8, 9, 10, 11, 12, 18, 32, 46, 49],
  (.seq (jr [js 3 (.box wgm 2 (.v 1)), js 4 (.nilrow t_int true 1)])
  (.seq (jr [jn (.mov (.v 2)), jn (.call false w9f [(.r 0)]), js 5 (.mov (.r 1))])
  (.seq (.seq (jr [jn (.mov (.v 0)), jn (.callm w97 [(.r 0), (jc 6)]), js 6 (.mov (.r 1))])
  (.block 0 (.loop [true, false, false, true, false, true, true, false, false, false, false, false, false, false, false] (.seq (.seq (jr [jn (.mov (.v 6)), js 11 (.bin false .gtr (.r 0) (jc 0))])
  (.cond (.v 11) .skip (.exit 0)))
  (.seq (.block 1 (.seq (jr [jn (.load true 2 (.v 3)), jn (.mov (.v 5)), jn (.call false w8o [(.r 0), (.r 1)]), jn (.mov (.r 2)), jn (.extract (.r 3) 0), jn (.extract (.r 3) 1), js 7 (.mov (.r 4)), js 8 (.mov (.r 5))])
  (.seq (jr [jn (.mov (.v 8)), jn (.mov (.r 0)), jt 1 (.mov (.v 7)), jt 1 (.len false (.r 2)), jt 1 (.bin false .gtr (.r 3) (jc 0)), js 12 (.pick (.r 1) (.r 4) (.c (.bool false)))])
  (.cond (.v 12) (.seq (.region true [(6, 0)] [jn (.load true 2 (.v 3)), jn (.mov (.v 5)), jn (.mov (.v 7)), jn (.mov (.v 0)), jn (.mov (.v 7)), jn (.len false (.r 4)), jn (.callm w97 [(.r 3), (.r 5)]), jn (.iaddr 1 (.r 2) (.r 6)), jn (.load false 1 (.r 7)), jn (.call false w8p [(.r 0), (.r 1), (.r 8)]), jn (.mov (.r 9)), jn (.extract (.r 10) 0), jn (.extract (.r 10) 1), js 9 (.mov (.r 11)), js 10 (.mov (.r 12))])
  (.seq (jr [js 13 (.mov (.v 10))])
  (.cond (.v 13) (jr [jn (.mov (.v 9)), js 5 (.mov (.r 0))]) .skip))) .skip))))
  (jr [jn (.mov (.v 6)), jn (.bin false .sub (.r 0) (jc 1)), js 6 (.mov (.r 1))]))))))
  (.seq (.seq (jr [jn (.mov (.v 0)), js 14 (.callm w96 [(.r 0), (jc 4)])])
  (.cond (.v 14) (.seq (jr [jn (.mov (.v 0)), jn (.load true 2 (.v 3)), jn (.callm w92 [(.r 0), (.r 1)]), js 4 (.mov (.r 2))])
  .ret) .skip))
  (.seq (jr [jn (.mov (.v 5)), js 4 (.mov (.r 0))])
  .ret))))),
  [.v 4]⟩
def wd1 : IFun := ⟨[0, 2],
  (.seq (jr [js 1 (.mov (jc 0))])
  (.seq (jr [jn (.mov (.v 0)), jn (.bslice false t_int true 1 [(jc 1), (jc 4), (jc 20), (jc 60), (jc 60), (jc 60), (jc 61), (jc 0)]), jn (.callm w8y [(.r 0), (.r 1)]), js 1 (.mov (.r 2))])
  .ret)),
  [.v 1]⟩
def wcp : IFun := ⟨[0, 2, 3, 4, 5, 6, 7, 8],
  (.seq (jr [js 1 (.alloc wgm [(.int .i64 0), (.nil false 3)]), js 2 (.nilrow t_int true 1), js 3 (.nilrow t_int true 1), js 4 (.mov (jc 0))])
  (.seq (jr [jn (.mov (.v 0)), jn (.build [(.nil true 1), (.int .i64 0), (.int .u64 0)] [(0, 1, (.r 0))]), jn (.box wgr 3 (.r 1)), js 5 (.mov (.r 2))])
  (.seq (jr [jn (.mov (.v 5)), jn (.callm w99 [(.r 0)]), jn (.mov (.r 1)), jn (.extract (.r 2) 0), jn (.extract (.r 2) 1), js 6 (.alloc wgm [(.int .i64 0), (.nil false 3)]), jn (.store 2 (.v 6) (.r 3)), js 7 (.mov (.r 4))])
  (.seq (.region true [(6, 0), (7, 0)] [jn (.load true 2 (.v 6)), jn (.mov (.v 7)), jn (.mov (.v 5)), jn (.load true 2 (.v 6)), jn (.mov (.v 7)), jn (.mov (.v 5)), jn (.callm w93 [(.r 2), (.r 3), (.r 4)]), jn (.callm w8z [(.r 5)]), jn (.store 2 (.v 1) (.r 0)), js 2 (.mov (.r 1)), js 3 (.mov (.r 6)), js 4 (.mov (.r 7))])
  .ret)))),
  [.cell true 2 1, .v 2, .v 3, .v 4]⟩
def wbm : IFun := ⟨[0, 1, 2, 6],
  (.seq (jr [js 3 (.mov (.c (.bool false)))])
  (.seq (jr [jn (.mov (.v 0)), jn (.mov (.v 1)), jn (.bin false .geq (.r 0) (.r 1)), jn (.mov (.r 2)), jt 3 (.mov (.v 0)), jt 3 (.mov (.v 2)), jt 3 (.bin false .leq (.r 4) (.r 5)), jn (.pick (.r 3) (.r 6) (.c (.bool false))), js 3 (.mov (.r 7))])
  .ret)),
  [.v 3]⟩
def wbg : IFun := ⟨[0, 2, 3, 7, 19],
  (.seq (jr [js 1 (.mov (.c (.bool false)))])
  (.seq (.seq (jr [js 2 (.mov (jc 1))])
  (.block 0 (.loop [true, false, true, false, false] (.seq (.seq (jr [jn (.mov (.v 2)), jn (.mov (.v 0)), jn (.len false (.r 1)), js 3 (.bin false .lss (.r 0) (.r 2))])
  (.cond (.v 3) .skip (.exit 0)))
  (.seq (.block 1 (.seq (.region true [] [jn (.mov (.v 0)), jn (.mov (.v 2)), jn (.bin false .sub (.r 1) (jc 1)), jn (.iaddr 1 (.r 0) (.r 2)), jn (.load false 1 (.r 3)), jn (.mov (.v 0)), jn (.mov (.v 2)), jn (.iaddr 1 (.r 5) (.r 6)), jn (.load false 1 (.r 7)), js 4 (.bin false .geq (.r 4) (.r 8))])
  (.cond (.v 4) (.seq (jr [js 1 (.mov (.c (.bool false)))])
  .ret) .skip)))
  (jr [jn (.mov (.v 2)), jn (.bin false .add (.r 0) (jc 1)), js 2 (.mov (.r 1))]))))))
  (.seq (jr [js 1 (.mov (.c (.bool true)))])
  .ret))),
  [.v 1]⟩
def wb7 : IFun := ⟨[0, 1, 2, 6, 8, 9, 10, 11, 12, 19],
  (.seq (jr [js 3 (.mov (.c (.bool false)))])
  (.seq (.seq (jr [js 5 (.mov (.v 0)), js 6 (.len false (.v 5)), js 7 (.mov (jc 0))])
  (.block 0 (.loop [false, true, true, false, false, true, true, true, false, false] (.seq (jr [js 8 (.bin false .lss (.v 7) (.v 6))])
  (.seq (.cond (.v 8) .skip (.exit 0))
  (.seq (.block 1 (.seq (jr [jn (.iaddr 1 (.v 5) (.v 7)), jn (.load false 1 (.r 0)), js 4 (.mov (.r 1))])
  (.seq (jr [jn (.mov (.v 4)), jn (.mov (.v 1)), jn (.mov (.v 2)), jn (.call false w7i [(.r 0), (.r 1), (.r 2)]), js 9 (.not (.r 3))])
  (.cond (.v 9) (.seq (jr [js 3 (.mov (.c (.bool false)))])
  .ret) .skip))))
  (jr [jn (.bin false .add (.v 7) (jc 1)), js 7 (.mov (.r 0))])))))))
  (.seq (jr [js 3 (.mov (.c (.bool true)))])
  .ret))),
  [.v 3]⟩
def wba : IFun := ⟨[0, 1, 2, 4],
  (.seq (jr [js 2 (.box wgm 2 (.v 0)), js 3 (.mov (.c (.bool false)))])
  (.seq (jr [jn (.mov (.v 1)), jn (.call false w7c [(.r 0)]), jn (.mov (.r 1)), jt 2 (.mov (.v 1)), jt 2 (.faddr 0 (.v 2)), jt 2 (.load false 1 (.r 4)), jt 2 (.bin false .sub (.r 5) (jc 1)), jt 2 (.call false w73 [(.r 3), (jc 0), (.r 6)]), jn (.pick (.r 2) (.r 7) (.c (.bool false))), js 3 (.mov (.r 8))])
  .ret)),
  [.v 3]⟩
def wb3 : IFun := ⟨[0, 1, 2, 3],
  (.seq (jr [js 2 (.box wgo 3 (.v 0)), js 3 (.mov (.c (.bool false)))])
  (.seq (jr [jn (.faddr 0 (.v 2)), jn (.load false 1 (.r 0)), jn (.len false (.r 1)), jn (.bin false .eql (.r 2) (jc 0)), jn (.mov (.r 3)), jf 4 (.load true 2 (.v 1)), jf 4 (.faddr 0 (.v 2)), jf 4 (.load false 1 (.r 6)), jf 4 (.call false w76 [(.r 5), (.r 7)]), jf 4 (.not (.r 8)), jn (.pick (.r 4) (.c (.bool true)) (.r 9)), jn (.mov (.r 10)), jf 11 (.load true 2 (.v 1)), jf 11 (.faddr 1 (.v 2)), jf 11 (.load false 1 (.r 13)), jf 11 (.call false w76 [(.r 12), (.r 14)]), jf 11 (.not (.r 15)), jn (.pick (.r 11) (.c (.bool true)) (.r 16)), jn (.mov (.r 17)), jf 18 (.load true 2 (.v 1)), jf 18 (.faddr 2 (.v 2)), jf 18 (.load false 1 (.r 20)), jf 18 (.call false w76 [(.r 19), (.r 21)]), jf 18 (.not (.r 22)), jn (.pick (.r 18) (.c (.bool true)) (.r 23)), js 3 (.mov (.r 24))])
  .ret)),
  [.v 3]⟩
def wc2 : IFun := ⟨[0, 1, 4, 5, 7, 8, 9, 16],
  (.seq (jr [js 2 (.mov (jc 0))])
  (.seq (.seq (jr [jn (.mov (.v 0)), js 4 (.len false (.r 0)), js 5 (.mov (jc 0))])
  (.block 0 (.loop [true, true, false, false, true, true, false, false] (.seq (jr [js 6 (.bin false .lss (.v 5) (.v 4))])
  (.seq (.cond (.v 6) .skip (.exit 0))
  (.seq (.block 1 (.seq (jr [jn (.mov (.v 5)), js 3 (.mov (.r 0))])
  (.seq (jr [jn (.mov (.v 1)), jn (.mov (.v 0)), jn (.mov (.v 3)), jn (.iaddr 3 (.r 1) (.r 2)), jn (.load true 3 (.r 3)), js 7 (.callv false (.r 0) [(.r 4)])])
  (.cond (.v 7) (.seq (jr [jn (.mov (.v 3)), js 2 (.mov (.r 0))])
  .ret) .skip))))
  (jr [jn (.bin false .add (.v 5) (jc 1)), js 5 (.mov (.r 0))])))))))
  (.seq (jr [js 2 (.mov (jc (-1)))])
  .ret))),
  [.v 2]⟩
def wbw : IFun := ⟨[0, 1, 4],
  (.seq (jr [js 2 (.mov (.c (.bool false)))])
  (.seq (jr [jn (.mov (.v 0)), jn (.mov (.v 1)), jn (.call false w80 [(.r 0), (.r 1)]), jn (.bin false .geq (.r 2) (jc 0)), js 2 (.mov (.r 3))])
  .ret)),
  [.v 2]⟩
def wb2 : IFun := ⟨[0, 1, 2],
  (.seq (jr [js 1 (.box wgm 2 (.v 0)), js 2 (.mov (.c (.bool false)))])
  (.seq (jr [jn (.faddr 0 (.v 1)), jn (.load false 1 (.r 0)), jn (.call false w7i [(.r 1), (jc 1), (jc 16)]), jn (.mov (.r 2)), jt 3 (.faddr 1 (.v 1)), jt 3 (.load false 1 (.r 4)), jt 3 (.len false (.r 5)), jt 3 (.bin false .leq (.r 6) (jc 24)), jn (.pick (.r 3) (.r 7) (.c (.bool false))), jn (.mov (.r 8)), jt 9 (.faddr 1 (.v 1)), jt 9 (.load false 1 (.r 10)), jt 9 (.mkfn w6z [(.v 1)]), jt 9 (.call false w7u [(.r 11), (.r 12)]), jt 9 (.not (.r 13)), jn (.pick (.r 9) (.r 14) (.c (.bool false))), js 2 (.mov (.r 15))])
  .ret)),
  [.v 2]⟩
def wb1 : IFun := ⟨[0, 1, 4],
  (.seq (jr [js 2 (.mov (.c (.bool false)))])
  (.seq (jr [jn (.mov (.v 0)), jn (.call false w7i [(.r 0), (jc 1), (jc 16)]), jn (.mov (.r 1)), jt 2 (.mov (.v 1)), jt 2 (.len false (.r 3)), jt 2 (.mov (.v 0)), jt 2 (.bin false .eql (.r 4) (.r 5)), jn (.pick (.r 2) (.r 6) (.c (.bool false))), jn (.mov (.r 7)), jt 8 (.mov (.v 1)), jt 8 (.call false w73 [(.r 9), (jc 0), (jc 50)]), jn (.pick (.r 8) (.r 10) (.c (.bool false))), js 2 (.mov (.r 11))])
  .ret)),
  [.v 2]⟩
def wbj : IFun := ⟨[0, 1, 2, 4],
  (.seq (jr [js 2 (.box wgm 2 (.v 0)), js 3 (.mov (.c (.bool false)))])
  (.seq (jr [jn (.load true 2 (.v 2)), jn (.call false w6y [(.r 0)]), jn (.mov (.r 1)), jt 2 (.faddr 0 (.v 2)), jt 2 (.load false 1 (.r 3)), jt 2 (.mov (.v 1)), jt 2 (.call false w6x [(.r 4), (.r 5)]), jn (.pick (.r 2) (.r 6) (.c (.bool false))), js 3 (.mov (.r 7))])
  .ret)),
  [.v 3]⟩
def wc5 : IFun := ⟨[0, 1, 4, 5, 7, 8, 9, 16],
  (.seq (jr [js 2 (.mov (jc 0))])
  (.seq (.seq (jr [jn (.mov (.v 0)), js 4 (.len false (.r 0)), js 5 (.mov (jc 0))])
  (.block 0 (.loop [true, true, false, false, true, true, false, false] (.seq (jr [js 6 (.bin false .lss (.v 5) (.v 4))])
  (.seq (.cond (.v 6) .skip (.exit 0))
  (.seq (.block 1 (.seq (jr [jn (.mov (.v 5)), js 3 (.mov (.r 0))])
  (.seq (jr [jn (.mov (.v 1)), jn (.mov (.v 0)), jn (.mov (.v 3)), jn (.iaddr 1 (.r 1) (.r 2)), jn (.load false 1 (.r 3)), js 7 (.bin false .eql (.r 0) (.r 4))])
  (.cond (.v 7) (.seq (jr [jn (.mov (.v 3)), js 2 (.mov (.r 0))])
  .ret) .skip))))
  (jr [jn (.bin false .add (.v 5) (jc 1)), js 5 (.mov (.r 0))])))))))
  (.seq (jr [js 2 (.mov (jc (-1)))])
  .ret))),
  [.v 2]⟩
def wbz : IFun := ⟨[0, 1, 4],
  (.seq (jr [js 2 (.mov (.c (.bool false)))])
  (.seq (jr [jn (.mov (.v 0)), jn (.mov (.v 1)), jn (.call false w83 [(.r 0), (.r 1)]), jn (.bin false .geq (.r 2) (jc 0)), js 2 (.mov (.r 3))])
  .ret)),
  [.v 2]⟩
def wbl : IFun := ⟨[0, 1, 2, 4, 5, 6, 7, 8, 12, 13, 14, 15, 22, 32, 41],
  (.seq (jr [js 2 (.box wgo 3 (.v 0)), js 3 (.nilrow t_int true 1), js 4 (.mov (.c (.bool false)))])
  (.seq (jr [jn (.mov (.v 1)), jn (.len false (.r 0)), jn (.mk t_int true 1 (.int .i64 0) (.r 1)), js 5 (.mov (.r 2))])
  (.seq (.seq (jr [js 8 (.mov (.v 1)), js 9 (.len false (.v 8)), js 10 (.mov (jc 0))])
  (.block 0 (.loop [false, false, true, false, false, true, false, false, true, true, true, false, false, false, false] (.seq (jr [js 11 (.bin false .lss (.v 10) (.v 9))])
  (.seq (.cond (.v 11) .skip (.exit 0))
  (.seq (.block 1 (.seq (jr [jn (.mov (.v 10)), jn (.iaddr 1 (.v 8) (.v 10)), jn (.load false 1 (.r 1)), js 6 (.mov (.r 0)), js 7 (.mov (.r 2))])
  (.seq (.seq (jr [jn (.faddr 1 (.v 2)), jn (.load false 1 (.r 0)), jn (.mov (.v 6)), js 12 (.call false w7x [(.r 1), (.r 2)])])
  (.cond (.v 12) (jr [jn (.mov (.v 7)), jn (.bin false .sub (.r 0) (jc 1)), js 7 (.mov (.r 1))]) .skip))
  (.seq (.seq (jr [jn (.faddr 2 (.v 2)), jn (.load false 1 (.r 0)), jn (.mov (.v 6)), jn (.call false w7x [(.r 1), (.r 2)]), jn (.mov (.r 3)), jt 4 (.mov (.v 7)), jt 4 (.bin false .gtr (.r 5) (jc 0)), js 13 (.pick (.r 4) (.r 6) (.c (.bool false)))])
  (.cond (.v 13) (.seq (jr [js 3 (.nilrow t_int true 1), js 4 (.mov (.c (.bool false)))])
  .ret) .skip))
  (.seq (jr [jn (.mov (.v 5)), jn (.mov (.v 6)), jn (.mov (.v 7)), jn (.mnmx true (jc 0) (.r 2)), jn (.iaddr 1 (.r 0) (.r 1)), jn (.store 1 (.r 4) (.r 3))])
  (.seq (jr [jn (.faddr 0 (.v 2)), jn (.load false 1 (.r 0)), jn (.mov (.v 6)), js 14 (.call false w7x [(.r 1), (.r 2)])])
  (.cond (.v 14) (jr [jn (.mov (.v 5)), jn (.mov (.v 6)), jn (.iaddr 1 (.r 0) (.r 1)), jn (.load false 1 (.r 2)), jn (.bin false .add (.r 3) (jc 1)), jn (.iaddr 1 (.r 0) (.r 1)), jn (.store 1 (.r 5) (.r 4))]) .skip)))))))
  (jr [jn (.bin false .add (.v 10) (jc 1)), js 10 (.mov (.r 0))])))))))
  (.seq (jr [jn (.mov (.v 5)), js 3 (.mov (.r 0)), js 4 (.mov (.c (.bool true)))])
  .ret)))),
  [.v 3, .v 4]⟩
def wbs : IFun := ⟨[0, 2, 4, 8],
  (.seq (jr [js 1 (.mov (jc 0))])
  (.seq (.seq (jr [jn (.mov (.v 0)), js 2 (.bin false .geq (.r 0) (.c (.int .u32 65536)))])
  (.cond (.v 2) (.seq (jr [jn (.mov (.v 0)), jn (.bin false .shr (.r 0) (.c (.int .u64 16))), js 0 (.mov (.r 1))])
  (jr [js 1 (.mov (jc 16))])) .skip))
  (.seq (.seq (jr [jn (.mov (.v 0)), js 3 (.bin false .geq (.r 0) (.c (.int .u32 256)))])
  (.cond (.v 3) (.seq (jr [jn (.mov (.v 0)), jn (.bin false .shr (.r 0) (.c (.int .u64 8))), js 0 (.mov (.r 1))])
  (jr [jn (.mov (.v 1)), jn (.bin false .add (.r 0) (jc 8)), js 1 (.mov (.r 1))])) .skip))
  (.seq (jr [jn (.mov (.v 1)), jn (.mov (.v 0)), jn (.conv .u8 (.r 1)), ⟨none, .stri (.c (.str ⟨#[0, 1, 2, 2, 3, 3, 3, 3, 4, 4, 4, 4, 4, 4, 4, 4, 5, 5, 5, 5, 5, 5, 5, 5, 5, 5, 5, 5, 5, 5, 5, 5, 6, 6, 6, 6, 6, 6, 6, 6, 6, 6, 6, 6, 6, 6, 6, 6, 6, 6, 6, 6, 6, 6, 6, 6, 6, 6, 6, 6, 6, 6, 6, 6, 7, 7, 7, 7, 7, 7, 7, 7, 7, 7, 7, 7, 7, 7, 7, 7, 7, 7, 7, 7, 7, 7, 7, 7, 7, 7, 7, 7, 7, 7, 7, 7, 7, 7, 7, 7, 7, 7, 7, 7, 7, 7, 7, 7, 7, 7, 7, 7, 7, 7, 7, 7, 7, 7, 7, 7, 7, 7, 7, 7, 7, 7, 7, 7, 8, 8, 8, 8, 8, 8, 8, 8, 8, 8, 8, 8, 8, 8, 8, 8, 8, 8, 8, 8, 8, 8, 8, 8, 8, 8, 8, 8, 8, 8, 8, 8, 8, 8, 8, 8, 8, 8, 8, 8, 8, 8, 8, 8, 8, 8, 8, 8, 8, 8, 8, 8, 8, 8, 8, 8, 8, 8, 8, 8, 8, 8, 8, 8, 8, 8, 8, 8, 8, 8, 8, 8, 8, 8, 8, 8, 8, 8, 8, 8, 8, 8, 8, 8, 8, 8, 8, 8, 8, 8, 8, 8, 8, 8, 8, 8, 8, 8, 8, 8, 8, 8, 8, 8, 8, 8, 8, 8, 8, 8, 8, 8, 8, 8, 8, 8, 8, 8, 8, 8, 8, 8, 8, 8, 8, 8, 8, 8]⟩)) (.r 2), none⟩, jn (.conv .i64 (.r 3)), jn (.bin false .add (.r 0) (.r 4)), js 1 (.mov (.r 5))])
  .ret)))),
  [.v 1]⟩
def wbt : IFun := ⟨[0, 2, 4, 8, 14],
  (.seq (jr [js 1 (.mov (jc 0))])
  (.seq (.seq (jr [jn (.mov (.v 0)), js 2 (.bin false .geq (.r 0) (.c (.int .u64 4294967296)))])
  (.cond (.v 2) (.seq (jr [jn (.mov (.v 0)), jn (.bin false .shr (.r 0) (.c (.int .u64 32))), js 0 (.mov (.r 1))])
  (jr [js 1 (.mov (jc 32))])) .skip))
  (.seq (.seq (jr [jn (.mov (.v 0)), js 3 (.bin false .geq (.r 0) (.c (.int .u64 65536)))])
  (.cond (.v 3) (.seq (jr [jn (.mov (.v 0)), jn (.bin false .shr (.r 0) (.c (.int .u64 16))), js 0 (.mov (.r 1))])
  (jr [jn (.mov (.v 1)), jn (.bin false .add (.r 0) (jc 16)), js 1 (.mov (.r 1))])) .skip))
  (.seq (.seq (jr [jn (.mov (.v 0)), js 4 (.bin false .geq (.r 0) (.c (.int .u64 256)))])
  (.cond (.v 4) (.seq (jr [jn (.mov (.v 0)), jn (.bin false .shr (.r 0) (.c (.int .u64 8))), js 0 (.mov (.r 1))])
  (jr [jn (.mov (.v 1)), jn (.bin false .add (.r 0) (jc 8)), js 1 (.mov (.r 1))])) .skip))
  (.seq (jr [jn (.mov (.v 1)), jn (.mov (.v 0)), jn (.conv .u8 (.r 1)), ⟨none, .stri (.c (.str ⟨#[0, 1, 2, 2, 3, 3, 3, 3, 4, 4, 4, 4, 4, 4, 4, 4, 5, 5, 5, 5, 5, 5, 5, 5, 5, 5, 5, 5, 5, 5, 5, 5, 6, 6, 6, 6, 6, 6, 6, 6, 6, 6, 6, 6, 6, 6, 6, 6, 6, 6, 6, 6, 6, 6, 6, 6, 6, 6, 6, 6, 6, 6, 6, 6, 7, 7, 7, 7, 7, 7, 7, 7, 7, 7, 7, 7, 7, 7, 7, 7, 7, 7, 7, 7, 7, 7, 7, 7, 7, 7, 7, 7, 7, 7, 7, 7, 7, 7, 7, 7, 7, 7, 7, 7, 7, 7, 7, 7, 7, 7, 7, 7, 7, 7, 7, 7, 7, 7, 7, 7, 7, 7, 7, 7, 7, 7, 7, 7, 8, 8, 8, 8, 8, 8, 8, 8, 8, 8, 8, 8, 8, 8, 8, 8, 8, 8, 8, 8, 8, 8, 8, 8, 8, 8, 8, 8, 8, 8, 8, 8, 8, 8, 8, 8, 8, 8, 8, 8, 8, 8, 8, 8, 8, 8, 8, 8, 8, 8, 8, 8, 8, 8, 8, 8, 8, 8, 8, 8, 8, 8, 8, 8, 8, 8, 8, 8, 8, 8, 8, 8, 8, 8, 8, 8, 8, 8, 8, 8, 8, 8, 8, 8, 8, 8, 8, 8, 8, 8, 8, 8, 8, 8, 8, 8, 8, 8, 8, 8, 8, 8, 8, 8, 8, 8, 8, 8, 8, 8, 8, 8, 8, 8, 8, 8, 8, 8, 8, 8, 8, 8, 8, 8, 8, 8, 8, 8]⟩)) (.r 2), none⟩, jn (.conv .i64 (.r 3)), jn (.bin false .add (.r 0) (.r 4)), js 1 (.mov (.r 5))])
  .ret))))),
  [.v 1]⟩
def wbr : IFun := ⟨[0, 2],
  (.seq (jr [js 1 (.mov (jc 0))])
  (.seq (.cond (.c (.bool false)) (.seq (jr [jn (.mov (.v 0)), jn (.conv .u32 (.r 0)), jn (.call false w7o [(.r 1)]), js 1 (.mov (.r 2))])
  .ret) .skip)
  (.seq (jr [jn (.mov (.v 0)), jn (.call false w7p [(.r 0)]), js 1 (.mov (.r 1))])
  .ret))),
  [.v 1]⟩
def wca : IFun := ⟨[0, 1, 2, 3, 8, 9, 14, 34],
  (.seq (jr [jn (.mov (.v 1)), jn (.bin false .add (.r 0) (jc 1)), js 4 (.mov (.r 1))])
  (.block 0 (.loop [true, true, true, true, true, false, false, false] (.seq (.seq (jr [jn (.mov (.v 4)), jn (.mov (.v 2)), js 6 (.bin false .lss (.r 0) (.r 1))])
  (.cond (.v 6) .skip (.exit 0)))
  (.seq (.block 1 (.seq (jr [jn (.mov (.v 4)), js 5 (.mov (.r 0))])
  (.block 2 (.loop [true, true, true, true, true, true, false, false] (.seq (.seq (.region true [] [jn (.mov (.v 5)), jn (.mov (.v 1)), jn (.bin false .gtr (.r 0) (.r 1)), jn (.mov (.r 2)), jt 3 (.mov (.v 3)), jt 3 (.mov (.v 0)), jt 3 (.mov (.v 5)), jt 3 (.iaddr 1 (.r 5) (.r 6)), jt 3 (.load false 1 (.r 7)), jt 3 (.mov (.v 0)), jt 3 (.mov (.v 5)), jt 3 (.bin false .sub (.r 10) (jc 1)), jt 3 (.iaddr 1 (.r 9) (.r 11)), jt 3 (.load false 1 (.r 12)), jt 3 (.callv false (.r 4) [(.r 8), (.r 13)]), jt 3 (.bin false .lss (.r 14) (jc 0)), js 7 (.pick (.r 3) (.r 15) (.c (.bool false)))])
  (.cond (.v 7) .skip (.exit 2)))
  (.seq (.block 3 (.region true [] [jn (.mov (.v 0)), jn (.mov (.v 5)), jn (.mov (.v 0)), jn (.mov (.v 5)), jn (.bin false .sub (.r 3) (jc 1)), jn (.mov (.v 0)), jn (.mov (.v 5)), jn (.bin false .sub (.r 6) (jc 1)), jn (.iaddr 1 (.r 5) (.r 7)), jn (.load false 1 (.r 8)), jn (.mov (.v 0)), jn (.mov (.v 5)), jn (.iaddr 1 (.r 10) (.r 11)), jn (.load false 1 (.r 12)), jn (.iaddr 1 (.r 0) (.r 1)), jn (.store 1 (.r 14) (.r 9)), jn (.iaddr 1 (.r 2) (.r 4)), jn (.store 1 (.r 16) (.r 13))]))
  (jr [jn (.mov (.v 5)), jn (.bin false .sub (.r 0) (jc 1)), js 5 (.mov (.r 1))])))))))
  (jr [jn (.mov (.v 4)), jn (.bin false .add (.r 0) (jc 1)), js 4 (.mov (.r 1))])))))),
  []⟩
def wck : IFun := ⟨[0, 1, 2, 3, 4, 10, 11, 18, 40, 58],
  (.seq (jr [jn (.mov (.v 1)), js 5 (.mov (.r 0))])
  (.block 0 (.loop [true, false, true, true, true, true, false, false, false, false] (.block 1 (.seq (jr [jn (.mov (.v 5)), jn (.bin false .mul (jc 2) (.r 0)), jn (.bin false .add (.r 1) (jc 1)), js 6 (.mov (.r 2))])
  (.seq (.seq (jr [jn (.mov (.v 6)), jn (.mov (.v 2)), js 7 (.bin false .geq (.r 0) (.r 1))])
  (.cond (.v 7) (.exit 0) .skip))
  (.seq (.seq (.region true [] [jn (.mov (.v 6)), jn (.bin false .add (.r 0) (jc 1)), jn (.mov (.v 2)), jn (.bin false .lss (.r 1) (.r 2)), jn (.mov (.r 3)), jt 4 (.mov (.v 4)), jt 4 (.mov (.v 0)), jt 4 (.mov (.v 3)), jt 4 (.mov (.v 6)), jt 4 (.bin false .add (.r 7) (.r 8)), jt 4 (.iaddr 1 (.r 6) (.r 9)), jt 4 (.load false 1 (.r 10)), jt 4 (.mov (.v 0)), jt 4 (.mov (.v 3)), jt 4 (.mov (.v 6)), jt 4 (.bin false .add (.r 13) (.r 14)), jt 4 (.bin false .add (.r 15) (jc 1)), jt 4 (.iaddr 1 (.r 12) (.r 16)), jt 4 (.load false 1 (.r 17)), jt 4 (.callv false (.r 5) [(.r 11), (.r 18)]), jt 4 (.bin false .lss (.r 19) (jc 0)), js 8 (.pick (.r 4) (.r 20) (.c (.bool false)))])
  (.cond (.v 8) (jr [jn (.mov (.v 6)), jn (.bin false .add (.r 0) (jc 1)), js 6 (.mov (.r 1))]) .skip))
  (.seq (.seq (.region true [] [jn (.mov (.v 4)), jn (.mov (.v 0)), jn (.mov (.v 3)), jn (.mov (.v 5)), jn (.bin false .add (.r 2) (.r 3)), jn (.iaddr 1 (.r 1) (.r 4)), jn (.load false 1 (.r 5)), jn (.mov (.v 0)), jn (.mov (.v 3)), jn (.mov (.v 6)), jn (.bin false .add (.r 8) (.r 9)), jn (.iaddr 1 (.r 7) (.r 10)), jn (.load false 1 (.r 11)), jn (.callv false (.r 0) [(.r 6), (.r 12)]), jn (.bin false .lss (.r 13) (jc 0)), js 9 (.not (.r 14))])
  (.cond (.v 9) .ret .skip))
  (.seq (.region true [] [jn (.mov (.v 0)), jn (.mov (.v 3)), jn (.mov (.v 5)), jn (.bin false .add (.r 1) (.r 2)), jn (.mov (.v 0)), jn (.mov (.v 3)), jn (.mov (.v 6)), jn (.bin false .add (.r 5) (.r 6)), jn (.mov (.v 0)), jn (.mov (.v 3)), jn (.mov (.v 6)), jn (.bin false .add (.r 9) (.r 10)), jn (.iaddr 1 (.r 8) (.r 11)), jn (.load false 1 (.r 12)), jn (.mov (.v 0)), jn (.mov (.v 3)), jn (.mov (.v 5)), jn (.bin false .add (.r 15) (.r 16)), jn (.iaddr 1 (.r 14) (.r 17)), jn (.load false 1 (.r 18)), jn (.iaddr 1 (.r 0) (.r 3)), jn (.store 1 (.r 20) (.r 13)), jn (.iaddr 1 (.r 4) (.r 7)), jn (.store 1 (.r 22) (.r 19))])
  (jr [jn (.mov (.v 6)), js 5 (.mov (.r 0))])))))))))),
  []⟩
def wc9 : IFun := ⟨[0, 1, 2, 3, 8, 9, 10, 11, 12, 21, 33],
  (.seq (jr [jn (.mov (.v 1)), js 4 (.mov (.r 0))])
  (.seq (jr [js 5 (.mov (jc 0))])
  (.seq (jr [jn (.mov (.v 2)), jn (.mov (.v 1)), jn (.bin false .sub (.r 0) (.r 1)), js 6 (.mov (.r 2))])
  (.seq (.seq (jr [jn (.mov (.v 6)), jn (.bin false .sub (.r 0) (jc 1)), jn (.bin false .quo (.r 1) (jc 2)), js 7 (.mov (.r 2))])
  (.block 0 (.loop [true, false, false, true, true, true, true, true, false, false, false] (.seq (.seq (jr [jn (.mov (.v 7)), js 9 (.bin false .geq (.r 0) (jc 0))])
  (.cond (.v 9) .skip (.exit 0)))
  (.seq (.block 1 (jr [jn (.mov (.v 0)), jn (.mov (.v 7)), jn (.mov (.v 6)), jn (.mov (.v 4)), jn (.mov (.v 3)), jn (.callm w8i [(.r 0), (.r 1), (.r 2), (.r 3), (.r 4)])]))
  (jr [jn (.mov (.v 7)), jn (.bin false .sub (.r 0) (jc 1)), js 7 (.mov (.r 1))]))))))
  (.seq (jr [jn (.mov (.v 6)), jn (.bin false .sub (.r 0) (jc 1)), js 8 (.mov (.r 1))])
  (.block 2 (.loop [true, false, false, true, true, true, false, false, true, false, false] (.seq (.seq (jr [jn (.mov (.v 8)), js 10 (.bin false .geq (.r 0) (jc 0))])
  (.cond (.v 10) .skip (.exit 2)))
  (.seq (.block 3 (.seq (.region true [] [jn (.mov (.v 0)), jn (.mov (.v 4)), jn (.mov (.v 0)), jn (.mov (.v 4)), jn (.mov (.v 8)), jn (.bin false .add (.r 3) (.r 4)), jn (.mov (.v 0)), jn (.mov (.v 4)), jn (.mov (.v 8)), jn (.bin false .add (.r 7) (.r 8)), jn (.iaddr 1 (.r 6) (.r 9)), jn (.load false 1 (.r 10)), jn (.mov (.v 0)), jn (.mov (.v 4)), jn (.iaddr 1 (.r 12) (.r 13)), jn (.load false 1 (.r 14)), jn (.iaddr 1 (.r 0) (.r 1)), jn (.store 1 (.r 16) (.r 11)), jn (.iaddr 1 (.r 2) (.r 5)), jn (.store 1 (.r 18) (.r 15))])
  (jr [jn (.mov (.v 0)), jn (.mov (.v 5)), jn (.mov (.v 8)), jn (.mov (.v 4)), jn (.mov (.v 3)), jn (.callm w8i [(.r 0), (.r 1), (.r 2), (.r 3), (.r 4)])])))
  (jr [jn (.mov (.v 8)), jn (.bin false .sub (.r 0) (jc 1)), js 8 (.mov (.r 1))])))))))))),
  []⟩
def wcd : IFun := ⟨[0, 2],
  (.seq (jr [js 1 (.mov (.c (.int .u64 0)))])
  (.seq (jr [jn (.mov (.v 0)), jn (.conv .u64 (.r 0)), jn (.call false w7n [(.r 1)]), jn (.bin false .shl (.c (.int .u64 1)) (.r 2)), js 1 (.mov (.r 3))])
  .ret)),
  [.v 1]⟩
def wcl : IFun := ⟨[0, 2],
  (.seq (jr [js 1 (.mov (.c (.int .u64 0)))])
  (.seq (.region true [] [jn (.mov (.v 0)), jn (.ncheck (.r 0)), jn (.load false 1 (.r 1)), jn (.mov (.v 0)), jn (.ncheck (.r 3)), jn (.load false 1 (.r 4)), jn (.bin false .shl (.r 5) (.c (.int .u64 13))), jn (.bin false .xor (.r 2) (.r 6)), jn (.ncheck (.r 0)), jn (.store 1 (.r 8) (.r 7))])
  (.seq (.region true [] [jn (.mov (.v 0)), jn (.ncheck (.r 0)), jn (.load false 1 (.r 1)), jn (.mov (.v 0)), jn (.ncheck (.r 3)), jn (.load false 1 (.r 4)), jn (.bin false .shr (.r 5) (.c (.int .u64 7))), jn (.bin false .xor (.r 2) (.r 6)), jn (.ncheck (.r 0)), jn (.store 1 (.r 8) (.r 7))])
  (.seq (.region true [] [jn (.mov (.v 0)), jn (.ncheck (.r 0)), jn (.load false 1 (.r 1)), jn (.mov (.v 0)), jn (.ncheck (.r 3)), jn (.load false 1 (.r 4)), jn (.bin false .shl (.r 5) (.c (.int .u64 17))), jn (.bin false .xor (.r 2) (.r 6)), jn (.ncheck (.r 0)), jn (.store 1 (.r 8) (.r 7))])
  (.seq (jr [jn (.mov (.v 0)), jn (.ncheck (.r 0)), jn (.load false 1 (.r 1)), js 1 (.mov (.r 2))])
  .ret))))),
  [.v 1]⟩
def wc7 : IFun := ⟨[0, 1, 2, 8, 9, 10, 11, 12, 17, 35, 45],
  (.seq (jr [jn (.mov (.v 2)), jn (.mov (.v 1)), jn (.bin false .sub (.r 0) (.r 1)), js 3 (.mov (.r 2))])
  (.seq (jr [jn (.mov (.v 3)), js 8 (.bin false .geq (.r 0) (jc 8))])
  (.cond (.v 8) (.seq (jr [jn (.mov (.v 3)), jn (.conv .u64 (.r 0)), js 4 (.alloc wgq [(.int .u64 0)]), jn (.store 1 (.v 4) (.r 1))])
  (.seq (jr [jn (.mov (.v 3)), jn (.call false w8b [(.r 0)]), js 5 (.mov (.r 1))])
  (.seq (jr [jn (.mov (.v 1)), jn (.mov (.v 3)), jn (.bin false .quo (.r 1) (jc 4)), jn (.bin false .mul (.r 2) (jc 2)), jn (.bin false .add (.r 0) (.r 3)), jn (.bin false .sub (.r 4) (jc 1)), js 6 (.mov (.r 5))])
  (.block 0 (.loop [true, true, false, true, true, true, true, false, false, false, false] (.seq (.seq (jr [jn (.mov (.v 6)), jn (.mov (.v 1)), jn (.mov (.v 3)), jn (.bin false .quo (.r 2) (jc 4)), jn (.bin false .mul (.r 3) (jc 2)), jn (.bin false .add (.r 1) (.r 4)), jn (.bin false .add (.r 5) (jc 1)), js 9 (.bin false .leq (.r 0) (.r 6))])
  (.cond (.v 9) .skip (.exit 0)))
  (.seq (.block 1 (.seq (jr [jn (.callm w8j [(.v 4)]), jn (.mov (.v 5)), jn (.bin false .sub (.r 1) (.c (.int .u64 1))), jn (.bin false .and (.r 0) (.r 2)), jn (.conv .i64 (.r 3)), js 7 (.mov (.r 4))])
  (.seq (.seq (jr [jn (.mov (.v 7)), jn (.mov (.v 3)), js 10 (.bin false .geq (.r 0) (.r 1))])
  (.cond (.v 10) (jr [jn (.mov (.v 7)), jn (.mov (.v 3)), jn (.bin false .sub (.r 0) (.r 1)), js 7 (.mov (.r 2))]) .skip))
  (.region true [] [jn (.mov (.v 0)), jn (.mov (.v 6)), jn (.mov (.v 0)), jn (.mov (.v 1)), jn (.mov (.v 7)), jn (.bin false .add (.r 3) (.r 4)), jn (.mov (.v 0)), jn (.mov (.v 1)), jn (.mov (.v 7)), jn (.bin false .add (.r 7) (.r 8)), jn (.iaddr 1 (.r 6) (.r 9)), jn (.load false 1 (.r 10)), jn (.mov (.v 0)), jn (.mov (.v 6)), jn (.iaddr 1 (.r 12) (.r 13)), jn (.load false 1 (.r 14)), jn (.iaddr 1 (.r 0) (.r 1)), jn (.store 1 (.r 16) (.r 11)), jn (.iaddr 1 (.r 2) (.r 5)), jn (.store 1 (.r 18) (.r 15))]))))
  (jr [jn (.mov (.v 6)), jn (.bin false .add (.r 0) (jc 1)), js 6 (.mov (.r 1))])))))))) .skip))),
  []⟩
def wce : IFun := ⟨[0, 1, 2, 3, 4, 10, 11, 22],
  (.seq (jr [js 5 (.mov (jc 0)), js 6 (.mov (jc 0))])
  (.seq (.seq (.region true [] [jn (.mov (.v 4)), jn (.mov (.v 0)), jn (.mov (.v 2)), jn (.iaddr 1 (.r 1) (.r 2)), jn (.load false 1 (.r 3)), jn (.mov (.v 0)), jn (.mov (.v 1)), jn (.iaddr 1 (.r 5) (.r 6)), jn (.load false 1 (.r 7)), jn (.callv false (.r 0) [(.r 4), (.r 8)]), js 7 (.bin false .lss (.r 9) (jc 0))])
  (.cond (.v 7) (.seq (jr [jn (.mov (.v 3)), jn (.ncheck (.r 0)), jn (.load false 1 (.r 1)), jn (.bin false .add (.r 2) (jc 1)), jn (.ncheck (.r 0)), jn (.store 1 (.r 4) (.r 3))])
  (.seq (jr [jn (.mov (.v 2)), jn (.mov (.v 1)), js 5 (.mov (.r 0)), js 6 (.mov (.r 1))])
  .ret)) .skip))
  (.seq (jr [jn (.mov (.v 1)), jn (.mov (.v 2)), js 5 (.mov (.r 0)), js 6 (.mov (.r 1))])
  .ret))),
  [.v 5, .v 6]⟩
def wcc : IFun := ⟨[0, 1, 2, 3, 4, 5, 12],
  (.seq (jr [js 6 (.mov (jc 0))])
  (.seq (jr [jn (.mov (.v 0)), jn (.mov (.v 1)), jn (.mov (.v 2)), jn (.mov (.v 4)), jn (.mov (.v 5)), jn (.callm w8c [(.r 0), (.r 1), (.r 2), (.r 3), (.r 4)]), jn (.mov (.r 5)), jn (.extract (.r 6) 0), jn (.extract (.r 6) 1), js 1 (.mov (.r 7)), js 2 (.mov (.r 8))])
  (.seq (jr [jn (.mov (.v 0)), jn (.mov (.v 2)), jn (.mov (.v 3)), jn (.mov (.v 4)), jn (.mov (.v 5)), jn (.callm w8c [(.r 0), (.r 1), (.r 2), (.r 3), (.r 4)]), jn (.mov (.r 5)), jn (.extract (.r 6) 0), jn (.extract (.r 6) 1), js 2 (.mov (.r 7)), js 3 (.mov (.r 8))])
  (.seq (jr [jn (.mov (.v 0)), jn (.mov (.v 1)), jn (.mov (.v 2)), jn (.mov (.v 4)), jn (.mov (.v 5)), jn (.callm w8c [(.r 0), (.r 1), (.r 2), (.r 3), (.r 4)]), jn (.mov (.r 5)), jn (.extract (.r 6) 0), jn (.extract (.r 6) 1), js 1 (.mov (.r 7)), js 2 (.mov (.r 8))])
  (.seq (jr [jn (.mov (.v 2)), js 6 (.mov (.r 0))])
  .ret))))),
  [.v 6]⟩
def wcb : IFun := ⟨[0, 1, 2, 3, 8],
  (.seq (jr [js 4 (.mov (jc 0))])
  (.seq (jr [jn (.mov (.v 0)), jn (.mov (.v 1)), jn (.bin false .sub (.r 1) (jc 1)), jn (.mov (.v 1)), jn (.mov (.v 1)), jn (.bin false .add (.r 4) (jc 1)), jn (.mov (.v 2)), jn (.mov (.v 3)), jn (.callm w8a [(.r 0), (.r 2), (.r 3), (.r 5), (.r 6), (.r 7)]), js 4 (.mov (.r 8))])
  .ret)),
  [.v 4]⟩
def wc8 : IFun := ⟨[0, 1, 2, 3, 8, 9, 10, 11, 12, 13, 14, 34, 36, 55, 57, 60],
  (.seq (jr [js 4 (.mov (jc 0)), js 5 (.mov (jc 0))])
  (.seq (jr [jn (.mov (.v 2)), jn (.mov (.v 1)), jn (.bin false .sub (.r 0) (.r 1)), js 6 (.mov (.r 2))])
  (.seq (jr [js 7 (.alloc t_int [(.int .i64 0)])])
  (.seq (jr [jn (.mov (.v 1)), jn (.mov (.v 6)), jn (.bin false .quo (.r 1) (jc 4)), jn (.bin false .mul (.r 2) (jc 1)), jn (.bin false .add (.r 0) (.r 3)), js 8 (.mov (.r 4))])
  (.seq (jr [jn (.mov (.v 1)), jn (.mov (.v 6)), jn (.bin false .quo (.r 1) (jc 4)), jn (.bin false .mul (.r 2) (jc 2)), jn (.bin false .add (.r 0) (.r 3)), js 9 (.mov (.r 4))])
  (.seq (jr [jn (.mov (.v 1)), jn (.mov (.v 6)), jn (.bin false .quo (.r 1) (jc 4)), jn (.bin false .mul (.r 2) (jc 3)), jn (.bin false .add (.r 0) (.r 3)), js 10 (.mov (.r 4))])
  (.seq (.seq (jr [jn (.mov (.v 6)), js 11 (.bin false .geq (.r 0) (jc 8))])
  (.cond (.v 11) (.seq (.seq (jr [jn (.mov (.v 6)), js 12 (.bin false .geq (.r 0) (jc 50))])
  (.cond (.v 12) (.seq (jr [jn (.mov (.v 0)), jn (.mov (.v 8)), jn (.mov (.v 3)), jn (.callm w89 [(.r 0), (.r 1), (.v 7), (.r 2)]), js 8 (.mov (.r 3))])
  (.seq (jr [jn (.mov (.v 0)), jn (.mov (.v 9)), jn (.mov (.v 3)), jn (.callm w89 [(.r 0), (.r 1), (.v 7), (.r 2)]), js 9 (.mov (.r 3))])
  (jr [jn (.mov (.v 0)), jn (.mov (.v 10)), jn (.mov (.v 3)), jn (.callm w89 [(.r 0), (.r 1), (.v 7), (.r 2)]), js 10 (.mov (.r 3))]))) .skip))
  (jr [jn (.mov (.v 0)), jn (.mov (.v 8)), jn (.mov (.v 9)), jn (.mov (.v 10)), jn (.mov (.v 3)), jn (.callm w8a [(.r 0), (.r 1), (.r 2), (.r 3), (.v 7), (.r 4)]), js 9 (.mov (.r 5))])) .skip))
  (.seq (jr [js 13 (.load false 1 (.v 7))])
  (.block 0 (.seq (jr [jn (.bin false .eql (.v 13) (jc 0)), js 14 (.mov (.r 0))])
  (.cond (.v 14) (.seq (jr [jn (.mov (.v 9)), js 4 (.mov (.r 0)), js 5 (.mov (jc 1))])
  .ret) (.seq (jr [jn (.bin false .eql (.v 13) (jc 12)), js 15 (.mov (.r 0))])
  (.cond (.v 15) (.seq (jr [jn (.mov (.v 9)), js 4 (.mov (.r 0)), js 5 (.mov (jc 2))])
  .ret) (.seq (jr [jn (.mov (.v 9)), js 4 (.mov (.r 0)), js 5 (.mov (jc 0))])
  .ret)))))))))))))),
  [.v 4, .v 5]⟩
def wcj : IFun := ⟨[0, 1, 2, 8, 9, 15],
  (.seq (jr [jn (.mov (.v 1)), js 3 (.mov (.r 0))])
  (.seq (jr [jn (.mov (.v 2)), jn (.bin false .sub (.r 0) (jc 1)), js 4 (.mov (.r 1))])
  (.block 0 (.loop [true, false, false, true, true, false] (.seq (.seq (jr [jn (.mov (.v 3)), jn (.mov (.v 4)), js 5 (.bin false .lss (.r 0) (.r 1))])
  (.cond (.v 5) .skip (.exit 0)))
  (.block 1 (.seq (.region true [] [jn (.mov (.v 0)), jn (.mov (.v 3)), jn (.mov (.v 0)), jn (.mov (.v 4)), jn (.mov (.v 0)), jn (.mov (.v 4)), jn (.iaddr 1 (.r 4) (.r 5)), jn (.load false 1 (.r 6)), jn (.mov (.v 0)), jn (.mov (.v 3)), jn (.iaddr 1 (.r 8) (.r 9)), jn (.load false 1 (.r 10)), jn (.iaddr 1 (.r 0) (.r 1)), jn (.store 1 (.r 12) (.r 7)), jn (.iaddr 1 (.r 2) (.r 3)), jn (.store 1 (.r 14) (.r 11))])
  (.seq (jr [jn (.mov (.v 3)), jn (.bin false .add (.r 0) (jc 1)), js 3 (.mov (.r 1))])
  (jr [jn (.mov (.v 4)), jn (.bin false .sub (.r 0) (jc 1)), js 4 (.mov (.r 1))]))))))))),
  []⟩
def wcf : IFun := ⟨[0, 1, 2, 3, 8, 9, 10, 11, 12, 16, 36, 41, 45, 65, 69, 84, 104, 109, 124],
  (.seq (jr [js 4 (.mov (.c (.bool false)))])
  (.seq (jr [jn (.mov (.v 1)), jn (.bin false .add (.r 0) (jc 1)), js 5 (.mov (.r 1))])
  (.seq (.seq (jr [js 6 (.mov (jc 0))])
  (.block 0 (.loop [true, true, true, true, false, true, true, false, false, false, false, false, false, false, false, false, false, false, false] (.seq (.seq (jr [jn (.mov (.v 6)), js 9 (.bin false .lss (.r 0) (jc 5))])
  (.cond (.v 9) .skip (.exit 0)))
  (.seq (.block 1 (.seq (.block 2 (.loop [true, true, true, true, false, true, true, false, false, false, false, false, false, false, false, false, false, false, false] (.seq (.seq (.region true [] [jn (.mov (.v 5)), jn (.mov (.v 2)), jn (.bin false .lss (.r 0) (.r 1)), jn (.mov (.r 2)), jt 3 (.mov (.v 3)), jt 3 (.mov (.v 0)), jt 3 (.mov (.v 5)), jt 3 (.iaddr 1 (.r 5) (.r 6)), jt 3 (.load false 1 (.r 7)), jt 3 (.mov (.v 0)), jt 3 (.mov (.v 5)), jt 3 (.bin false .sub (.r 10) (jc 1)), jt 3 (.iaddr 1 (.r 9) (.r 11)), jt 3 (.load false 1 (.r 12)), jt 3 (.callv false (.r 4) [(.r 8), (.r 13)]), jt 3 (.bin false .lss (.r 14) (jc 0)), jt 3 (.not (.r 15)), js 10 (.pick (.r 3) (.r 16) (.c (.bool false)))])
  (.cond (.v 10) .skip (.exit 2)))
  (.block 3 (jr [jn (.mov (.v 5)), jn (.bin false .add (.r 0) (jc 1)), js 5 (.mov (.r 1))])))))
  (.seq (.seq (jr [jn (.mov (.v 5)), jn (.mov (.v 2)), js 11 (.bin false .eql (.r 0) (.r 1))])
  (.cond (.v 11) (.seq (jr [js 4 (.mov (.c (.bool true)))])
  .ret) .skip))
  (.seq (.seq (jr [jn (.mov (.v 2)), jn (.mov (.v 1)), jn (.bin false .sub (.r 0) (.r 1)), js 12 (.bin false .lss (.r 2) (jc 50))])
  (.cond (.v 12) (.seq (jr [js 4 (.mov (.c (.bool false)))])
  .ret) .skip))
  (.seq (.region true [] [jn (.mov (.v 0)), jn (.mov (.v 5)), jn (.mov (.v 0)), jn (.mov (.v 5)), jn (.bin false .sub (.r 3) (jc 1)), jn (.mov (.v 0)), jn (.mov (.v 5)), jn (.bin false .sub (.r 6) (jc 1)), jn (.iaddr 1 (.r 5) (.r 7)), jn (.load false 1 (.r 8)), jn (.mov (.v 0)), jn (.mov (.v 5)), jn (.iaddr 1 (.r 10) (.r 11)), jn (.load false 1 (.r 12)), jn (.iaddr 1 (.r 0) (.r 1)), jn (.store 1 (.r 14) (.r 9)), jn (.iaddr 1 (.r 2) (.r 4)), jn (.store 1 (.r 16) (.r 13))])
  (.seq (.seq (jr [jn (.mov (.v 5)), jn (.mov (.v 1)), jn (.bin false .sub (.r 0) (.r 1)), js 13 (.bin false .geq (.r 2) (jc 2))])
  (.cond (.v 13) (.seq (jr [jn (.mov (.v 5)), jn (.bin false .sub (.r 0) (jc 1)), js 7 (.mov (.r 1))])
  (.block 4 (.loop [true, true, true, true, false, true, true, true, false, false, false, false, false, false, false, false, false, false, false] (.seq (.seq (jr [jn (.mov (.v 7)), js 14 (.bin false .geq (.r 0) (jc 1))])
  (.cond (.v 14) .skip (.exit 4)))
  (.seq (.block 5 (.seq (.seq (.region true [] [jn (.mov (.v 3)), jn (.mov (.v 0)), jn (.mov (.v 7)), jn (.iaddr 1 (.r 1) (.r 2)), jn (.load false 1 (.r 3)), jn (.mov (.v 0)), jn (.mov (.v 7)), jn (.bin false .sub (.r 6) (jc 1)), jn (.iaddr 1 (.r 5) (.r 7)), jn (.load false 1 (.r 8)), jn (.callv false (.r 0) [(.r 4), (.r 9)]), jn (.bin false .lss (.r 10) (jc 0)), js 15 (.not (.r 11))])
  (.cond (.v 15) (.exit 4) .skip))
  (.region true [] [jn (.mov (.v 0)), jn (.mov (.v 7)), jn (.mov (.v 0)), jn (.mov (.v 7)), jn (.bin false .sub (.r 3) (jc 1)), jn (.mov (.v 0)), jn (.mov (.v 7)), jn (.bin false .sub (.r 6) (jc 1)), jn (.iaddr 1 (.r 5) (.r 7)), jn (.load false 1 (.r 8)), jn (.mov (.v 0)), jn (.mov (.v 7)), jn (.iaddr 1 (.r 10) (.r 11)), jn (.load false 1 (.r 12)), jn (.iaddr 1 (.r 0) (.r 1)), jn (.store 1 (.r 14) (.r 9)), jn (.iaddr 1 (.r 2) (.r 4)), jn (.store 1 (.r 16) (.r 13))])))
  (jr [jn (.mov (.v 7)), jn (.bin false .sub (.r 0) (jc 1)), js 7 (.mov (.r 1))])))))) .skip))
  (.seq (jr [jn (.mov (.v 2)), jn (.mov (.v 5)), jn (.bin false .sub (.r 0) (.r 1)), js 16 (.bin false .geq (.r 2) (jc 2))])
  (.cond (.v 16) (.seq (jr [jn (.mov (.v 5)), jn (.bin false .add (.r 0) (jc 1)), js 8 (.mov (.r 1))])
  (.block 6 (.loop [true, true, true, true, false, true, true, false, true, false, false, false, false, false, false, false, false, false, false] (.seq (.seq (jr [jn (.mov (.v 8)), jn (.mov (.v 2)), js 17 (.bin false .lss (.r 0) (.r 1))])
  (.cond (.v 17) .skip (.exit 6)))
  (.seq (.block 7 (.seq (.seq (.region true [] [jn (.mov (.v 3)), jn (.mov (.v 0)), jn (.mov (.v 8)), jn (.iaddr 1 (.r 1) (.r 2)), jn (.load false 1 (.r 3)), jn (.mov (.v 0)), jn (.mov (.v 8)), jn (.bin false .sub (.r 6) (jc 1)), jn (.iaddr 1 (.r 5) (.r 7)), jn (.load false 1 (.r 8)), jn (.callv false (.r 0) [(.r 4), (.r 9)]), jn (.bin false .lss (.r 10) (jc 0)), js 18 (.not (.r 11))])
  (.cond (.v 18) (.exit 6) .skip))
  (.region true [] [jn (.mov (.v 0)), jn (.mov (.v 8)), jn (.mov (.v 0)), jn (.mov (.v 8)), jn (.bin false .sub (.r 3) (jc 1)), jn (.mov (.v 0)), jn (.mov (.v 8)), jn (.bin false .sub (.r 6) (jc 1)), jn (.iaddr 1 (.r 5) (.r 7)), jn (.load false 1 (.r 8)), jn (.mov (.v 0)), jn (.mov (.v 8)), jn (.iaddr 1 (.r 10) (.r 11)), jn (.load false 1 (.r 12)), jn (.iaddr 1 (.r 0) (.r 1)), jn (.store 1 (.r 14) (.r 9)), jn (.iaddr 1 (.r 2) (.r 4)), jn (.store 1 (.r 16) (.r 13))])))
  (jr [jn (.mov (.v 8)), jn (.bin false .add (.r 0) (jc 1)), js 8 (.mov (.r 1))])))))) .skip))))))))
  (jr [jn (.mov (.v 6)), jn (.bin false .add (.r 0) (jc 1)), js 6 (.mov (.r 1))]))))))
  (.seq (jr [js 4 (.mov (.c (.bool false)))])
  .ret)))),
  [.v 4]⟩
def wch : IFun := ⟨[0, 1, 2, 3, 4, 10, 11, 12, 47, 65, 70],
  (.seq (jr [js 5 (.mov (jc 0))])
  (.seq (.region true [] [jn (.mov (.v 0)), jn (.mov (.v 1)), jn (.mov (.v 0)), jn (.mov (.v 3)), jn (.mov (.v 0)), jn (.mov (.v 3)), jn (.iaddr 1 (.r 4) (.r 5)), jn (.load false 1 (.r 6)), jn (.mov (.v 0)), jn (.mov (.v 1)), jn (.iaddr 1 (.r 8) (.r 9)), jn (.load false 1 (.r 10)), jn (.iaddr 1 (.r 0) (.r 1)), jn (.store 1 (.r 12) (.r 7)), jn (.iaddr 1 (.r 2) (.r 3)), jn (.store 1 (.r 14) (.r 11))])
  (.seq (jr [jn (.mov (.v 1)), jn (.bin false .add (.r 0) (jc 1)), jn (.mov (.v 2)), jn (.bin false .sub (.r 2) (jc 1)), js 6 (.mov (.r 1)), js 7 (.mov (.r 3))])
  (.seq (.block 0 (.loop [true, true, false, false, true, false, true, true, false, false, false] (.block 1 (.seq (.block 2 (.loop [true, true, false, false, true, false, true, true, false, false, false] (.seq (.seq (.region true [] [jn (.mov (.v 6)), jn (.mov (.v 7)), jn (.bin false .leq (.r 0) (.r 1)), jn (.mov (.r 2)), jt 3 (.mov (.v 4)), jt 3 (.mov (.v 0)), jt 3 (.mov (.v 1)), jt 3 (.iaddr 1 (.r 5) (.r 6)), jt 3 (.load false 1 (.r 7)), jt 3 (.mov (.v 0)), jt 3 (.mov (.v 6)), jt 3 (.iaddr 1 (.r 9) (.r 10)), jt 3 (.load false 1 (.r 11)), jt 3 (.callv false (.r 4) [(.r 8), (.r 12)]), jt 3 (.bin false .lss (.r 13) (jc 0)), jt 3 (.not (.r 14)), js 8 (.pick (.r 3) (.r 15) (.c (.bool false)))])
  (.cond (.v 8) .skip (.exit 2)))
  (.block 3 (jr [jn (.mov (.v 6)), jn (.bin false .add (.r 0) (jc 1)), js 6 (.mov (.r 1))])))))
  (.seq (.block 4 (.loop [true, true, false, false, true, false, true, true, false, false, false] (.seq (.seq (.region true [] [jn (.mov (.v 6)), jn (.mov (.v 7)), jn (.bin false .leq (.r 0) (.r 1)), jn (.mov (.r 2)), jt 3 (.mov (.v 4)), jt 3 (.mov (.v 0)), jt 3 (.mov (.v 1)), jt 3 (.iaddr 1 (.r 5) (.r 6)), jt 3 (.load false 1 (.r 7)), jt 3 (.mov (.v 0)), jt 3 (.mov (.v 7)), jt 3 (.iaddr 1 (.r 9) (.r 10)), jt 3 (.load false 1 (.r 11)), jt 3 (.callv false (.r 4) [(.r 8), (.r 12)]), jt 3 (.bin false .lss (.r 13) (jc 0)), js 9 (.pick (.r 3) (.r 14) (.c (.bool false)))])
  (.cond (.v 9) .skip (.exit 4)))
  (.block 5 (jr [jn (.mov (.v 7)), jn (.bin false .sub (.r 0) (jc 1)), js 7 (.mov (.r 1))])))))
  (.seq (.seq (jr [jn (.mov (.v 6)), jn (.mov (.v 7)), js 10 (.bin false .gtr (.r 0) (.r 1))])
  (.cond (.v 10) (.exit 0) .skip))
  (.seq (.region true [] [jn (.mov (.v 0)), jn (.mov (.v 6)), jn (.mov (.v 0)), jn (.mov (.v 7)), jn (.mov (.v 0)), jn (.mov (.v 7)), jn (.iaddr 1 (.r 4) (.r 5)), jn (.load false 1 (.r 6)), jn (.mov (.v 0)), jn (.mov (.v 6)), jn (.iaddr 1 (.r 8) (.r 9)), jn (.load false 1 (.r 10)), jn (.iaddr 1 (.r 0) (.r 1)), jn (.store 1 (.r 12) (.r 7)), jn (.iaddr 1 (.r 2) (.r 3)), jn (.store 1 (.r 14) (.r 11))])
  (.seq (jr [jn (.mov (.v 6)), jn (.bin false .add (.r 0) (jc 1)), js 6 (.mov (.r 1))])
  (jr [jn (.mov (.v 7)), jn (.bin false .sub (.r 0) (jc 1)), js 7 (.mov (.r 1))])))))))))
  (.seq (jr [jn (.mov (.v 6)), js 5 (.mov (.r 0))])
  .ret))))),
  [.v 5]⟩
def wcg : IFun := ⟨[0, 1, 2, 3, 4, 10, 11, 12, 13, 47, 66, 71, 120, 139, 144],
  (.seq (jr [js 5 (.mov (jc 0)), js 6 (.mov (.c (.bool false)))])
  (.seq (.region true [] [jn (.mov (.v 0)), jn (.mov (.v 1)), jn (.mov (.v 0)), jn (.mov (.v 3)), jn (.mov (.v 0)), jn (.mov (.v 3)), jn (.iaddr 1 (.r 4) (.r 5)), jn (.load false 1 (.r 6)), jn (.mov (.v 0)), jn (.mov (.v 1)), jn (.iaddr 1 (.r 8) (.r 9)), jn (.load false 1 (.r 10)), jn (.iaddr 1 (.r 0) (.r 1)), jn (.store 1 (.r 12) (.r 7)), jn (.iaddr 1 (.r 2) (.r 3)), jn (.store 1 (.r 14) (.r 11))])
  (.seq (jr [jn (.mov (.v 1)), jn (.bin false .add (.r 0) (jc 1)), jn (.mov (.v 2)), jn (.bin false .sub (.r 2) (jc 1)), js 7 (.mov (.r 1)), js 8 (.mov (.r 3))])
  (.seq (.block 0 (.loop [true, true, false, false, true, false, false, true, true, false, false, false, false, false, false] (.seq (.seq (.region true [] [jn (.mov (.v 7)), jn (.mov (.v 8)), jn (.bin false .leq (.r 0) (.r 1)), jn (.mov (.r 2)), jt 3 (.mov (.v 4)), jt 3 (.mov (.v 0)), jt 3 (.mov (.v 7)), jt 3 (.iaddr 1 (.r 5) (.r 6)), jt 3 (.load false 1 (.r 7)), jt 3 (.mov (.v 0)), jt 3 (.mov (.v 1)), jt 3 (.iaddr 1 (.r 9) (.r 10)), jt 3 (.load false 1 (.r 11)), jt 3 (.callv false (.r 4) [(.r 8), (.r 12)]), jt 3 (.bin false .lss (.r 13) (jc 0)), js 9 (.pick (.r 3) (.r 14) (.c (.bool false)))])
  (.cond (.v 9) .skip (.exit 0)))
  (.block 1 (jr [jn (.mov (.v 7)), jn (.bin false .add (.r 0) (jc 1)), js 7 (.mov (.r 1))])))))
  (.seq (.block 2 (.loop [true, true, false, false, true, false, false, true, true, false, false, false, false, false, false] (.seq (.seq (.region true [] [jn (.mov (.v 7)), jn (.mov (.v 8)), jn (.bin false .leq (.r 0) (.r 1)), jn (.mov (.r 2)), jt 3 (.mov (.v 4)), jt 3 (.mov (.v 0)), jt 3 (.mov (.v 8)), jt 3 (.iaddr 1 (.r 5) (.r 6)), jt 3 (.load false 1 (.r 7)), jt 3 (.mov (.v 0)), jt 3 (.mov (.v 1)), jt 3 (.iaddr 1 (.r 9) (.r 10)), jt 3 (.load false 1 (.r 11)), jt 3 (.callv false (.r 4) [(.r 8), (.r 12)]), jt 3 (.bin false .lss (.r 13) (jc 0)), jt 3 (.not (.r 14)), js 10 (.pick (.r 3) (.r 15) (.c (.bool false)))])
  (.cond (.v 10) .skip (.exit 2)))
  (.block 3 (jr [jn (.mov (.v 8)), jn (.bin false .sub (.r 0) (jc 1)), js 8 (.mov (.r 1))])))))
  (.seq (.seq (jr [jn (.mov (.v 7)), jn (.mov (.v 8)), js 11 (.bin false .gtr (.r 0) (.r 1))])
  (.cond (.v 11) (.seq (.region true [] [jn (.mov (.v 0)), jn (.mov (.v 8)), jn (.mov (.v 0)), jn (.mov (.v 1)), jn (.mov (.v 0)), jn (.mov (.v 1)), jn (.iaddr 1 (.r 4) (.r 5)), jn (.load false 1 (.r 6)), jn (.mov (.v 0)), jn (.mov (.v 8)), jn (.iaddr 1 (.r 8) (.r 9)), jn (.load false 1 (.r 10)), jn (.iaddr 1 (.r 0) (.r 1)), jn (.store 1 (.r 12) (.r 7)), jn (.iaddr 1 (.r 2) (.r 3)), jn (.store 1 (.r 14) (.r 11))])
  (.seq (jr [jn (.mov (.v 8)), js 5 (.mov (.r 0)), js 6 (.mov (.c (.bool true)))])
  .ret)) .skip))
  (.seq (.region true [] [jn (.mov (.v 0)), jn (.mov (.v 7)), jn (.mov (.v 0)), jn (.mov (.v 8)), jn (.mov (.v 0)), jn (.mov (.v 8)), jn (.iaddr 1 (.r 4) (.r 5)), jn (.load false 1 (.r 6)), jn (.mov (.v 0)), jn (.mov (.v 7)), jn (.iaddr 1 (.r 8) (.r 9)), jn (.load false 1 (.r 10)), jn (.iaddr 1 (.r 0) (.r 1)), jn (.store 1 (.r 12) (.r 7)), jn (.iaddr 1 (.r 2) (.r 3)), jn (.store 1 (.r 14) (.r 11))])
  (.seq (jr [jn (.mov (.v 7)), jn (.bin false .add (.r 0) (jc 1)), js 7 (.mov (.r 1))])
  (.seq (jr [jn (.mov (.v 8)), jn (.bin false .sub (.r 0) (jc 1)), js 8 (.mov (.r 1))])
  (.seq (.block 4 (.loop [true, true, false, false, true, false, false, true, true, false, false, false, false, false, false] (.block 5 (.seq (.block 6 (.loop [true, true, false, false, true, false, false, true, true, false, false, false, false, false, false] (.seq (.seq (.region true [] [jn (.mov (.v 7)), jn (.mov (.v 8)), jn (.bin false .leq (.r 0) (.r 1)), jn (.mov (.r 2)), jt 3 (.mov (.v 4)), jt 3 (.mov (.v 0)), jt 3 (.mov (.v 7)), jt 3 (.iaddr 1 (.r 5) (.r 6)), jt 3 (.load false 1 (.r 7)), jt 3 (.mov (.v 0)), jt 3 (.mov (.v 1)), jt 3 (.iaddr 1 (.r 9) (.r 10)), jt 3 (.load false 1 (.r 11)), jt 3 (.callv false (.r 4) [(.r 8), (.r 12)]), jt 3 (.bin false .lss (.r 13) (jc 0)), js 12 (.pick (.r 3) (.r 14) (.c (.bool false)))])
  (.cond (.v 12) .skip (.exit 6)))
  (.block 7 (jr [jn (.mov (.v 7)), jn (.bin false .add (.r 0) (jc 1)), js 7 (.mov (.r 1))])))))
  (.seq (.block 8 (.loop [true, true, false, false, true, false, false, true, true, false, false, false, false, false, false] (.seq (.seq (.region true [] [jn (.mov (.v 7)), jn (.mov (.v 8)), jn (.bin false .leq (.r 0) (.r 1)), jn (.mov (.r 2)), jt 3 (.mov (.v 4)), jt 3 (.mov (.v 0)), jt 3 (.mov (.v 8)), jt 3 (.iaddr 1 (.r 5) (.r 6)), jt 3 (.load false 1 (.r 7)), jt 3 (.mov (.v 0)), jt 3 (.mov (.v 1)), jt 3 (.iaddr 1 (.r 9) (.r 10)), jt 3 (.load false 1 (.r 11)), jt 3 (.callv false (.r 4) [(.r 8), (.r 12)]), jt 3 (.bin false .lss (.r 13) (jc 0)), jt 3 (.not (.r 14)), js 13 (.pick (.r 3) (.r 15) (.c (.bool false)))])
  (.cond (.v 13) .skip (.exit 8)))
  (.block 9 (jr [jn (.mov (.v 8)), jn (.bin false .sub (.r 0) (jc 1)), js 8 (.mov (.r 1))])))))
  (.seq (.seq (jr [jn (.mov (.v 7)), jn (.mov (.v 8)), js 14 (.bin false .gtr (.r 0) (.r 1))])
  (.cond (.v 14) (.exit 4) .skip))
  (.seq (.region true [] [jn (.mov (.v 0)), jn (.mov (.v 7)), jn (.mov (.v 0)), jn (.mov (.v 8)), jn (.mov (.v 0)), jn (.mov (.v 8)), jn (.iaddr 1 (.r 4) (.r 5)), jn (.load false 1 (.r 6)), jn (.mov (.v 0)), jn (.mov (.v 7)), jn (.iaddr 1 (.r 8) (.r 9)), jn (.load false 1 (.r 10)), jn (.iaddr 1 (.r 0) (.r 1)), jn (.store 1 (.r 12) (.r 7)), jn (.iaddr 1 (.r 2) (.r 3)), jn (.store 1 (.r 14) (.r 11))])
  (.seq (jr [jn (.mov (.v 7)), jn (.bin false .add (.r 0) (jc 1)), js 7 (.mov (.r 1))])
  (jr [jn (.mov (.v 8)), jn (.bin false .sub (.r 0) (jc 1)), js 8 (.mov (.r 1))])))))))))
  (.seq (.region true [] [jn (.mov (.v 0)), jn (.mov (.v 8)), jn (.mov (.v 0)), jn (.mov (.v 1)), jn (.mov (.v 0)), jn (.mov (.v 1)), jn (.iaddr 1 (.r 4) (.r 5)), jn (.load false 1 (.r 6)), jn (.mov (.v 0)), jn (.mov (.v 8)), jn (.iaddr 1 (.r 8) (.r 9)), jn (.load false 1 (.r 10)), jn (.iaddr 1 (.r 0) (.r 1)), jn (.store 1 (.r 12) (.r 7)), jn (.iaddr 1 (.r 2) (.r 3)), jn (.store 1 (.r 14) (.r 11))])
  (.seq (jr [jn (.mov (.v 8)), js 5 (.mov (.r 0)), js 6 (.mov (.c (.bool false)))])
  .ret)))))))))))),
  [.v 5, .v 6]⟩
def wci : IFun := ⟨[0, 1, 2, 3, 4, 10, 11, 12, 13, 14, 15, 16, 17, 18, 19, 20, 25, 32, 39, 56, 75, 80, 97, 125],
  (.seq (jr [js 5 (.mov (.c (.bool true)))])
  (.seq (jr [js 6 (.mov (.c (.bool true)))])
  (.block 0 (.loop [true, true, true, true, true, true, true, false, false, false, false, false, false, false, false, false, false, false, false, false, false, false, false, false] (.block 1 (.seq (jr [jn (.mov (.v 2)), jn (.mov (.v 1)), jn (.bin false .sub (.r 0) (.r 1)), js 7 (.mov (.r 2))])
  (.seq (.seq (jr [jn (.mov (.v 7)), js 16 (.bin false .leq (.r 0) (jc 12))])
  (.cond (.v 16) (.seq (jr [jn (.mov (.v 0)), jn (.mov (.v 1)), jn (.mov (.v 2)), jn (.mov (.v 4)), jn (.callm w88 [(.r 0), (.r 1), (.r 2), (.r 3)])])
  .ret) .skip))
  (.seq (.seq (jr [jn (.mov (.v 3)), js 17 (.bin false .eql (.r 0) (jc 0))])
  (.cond (.v 17) (.seq (jr [jn (.mov (.v 0)), jn (.mov (.v 1)), jn (.mov (.v 2)), jn (.mov (.v 4)), jn (.callm w87 [(.r 0), (.r 1), (.r 2), (.r 3)])])
  .ret) .skip))
  (.seq (.seq (jr [jn (.mov (.v 5)), js 18 (.not (.r 0))])
  (.cond (.v 18) (.seq (jr [jn (.mov (.v 0)), jn (.mov (.v 1)), jn (.mov (.v 2)), jn (.mov (.v 4)), jn (.callm w85 [(.r 0), (.r 1), (.r 2), (.r 3)])])
  (jr [jn (.mov (.v 3)), jn (.bin false .sub (.r 0) (jc 1)), js 3 (.mov (.r 1))])) .skip))
  (.seq (jr [jn (.mov (.v 0)), jn (.mov (.v 1)), jn (.mov (.v 2)), jn (.mov (.v 4)), jn (.callm w86 [(.r 0), (.r 1), (.r 2), (.r 3)]), jn (.mov (.r 4)), jn (.extract (.r 5) 0), jn (.extract (.r 5) 1), js 8 (.mov (.r 6)), js 9 (.mov (.r 7))])
  (.seq (.seq (jr [jn (.mov (.v 9)), js 19 (.bin false .eql (.r 0) (jc 2))])
  (.cond (.v 19) (.seq (jr [jn (.mov (.v 0)), jn (.mov (.v 1)), jn (.mov (.v 2)), jn (.mov (.v 4)), jn (.callm w8h [(.r 0), (.r 1), (.r 2), (.r 3)])])
  (.seq (jr [jn (.mov (.v 2)), jn (.bin false .sub (.r 0) (jc 1)), jn (.mov (.v 8)), jn (.mov (.v 1)), jn (.bin false .sub (.r 2) (.r 3)), jn (.bin false .sub (.r 1) (.r 4)), js 8 (.mov (.r 5))])
  (jr [js 9 (.mov (jc 1))]))) .skip))
  (.seq (.seq (jr [jn (.mov (.v 5)), jn (.mov (.r 0)), jt 1 (.mov (.v 6)), jn (.pick (.r 1) (.r 2) (.c (.bool false))), jn (.mov (.r 3)), jt 4 (.mov (.v 9)), jt 4 (.bin false .eql (.r 5) (jc 1)), js 20 (.pick (.r 4) (.r 6) (.c (.bool false)))])
  (.cond (.v 20) (.seq (jr [jn (.mov (.v 0)), jn (.mov (.v 1)), jn (.mov (.v 2)), jn (.mov (.v 4)), js 21 (.callm w8d [(.r 0), (.r 1), (.r 2), (.r 3)])])
  (.cond (.v 21) .ret .skip)) .skip))
  (.seq (.seq (.region true [] [jn (.mov (.v 1)), jn (.bin false .gtr (.r 0) (jc 0)), jn (.mov (.r 1)), jt 2 (.mov (.v 4)), jt 2 (.mov (.v 0)), jt 2 (.mov (.v 1)), jt 2 (.bin false .sub (.r 5) (jc 1)), jt 2 (.iaddr 1 (.r 4) (.r 6)), jt 2 (.load false 1 (.r 7)), jt 2 (.mov (.v 0)), jt 2 (.mov (.v 8)), jt 2 (.iaddr 1 (.r 9) (.r 10)), jt 2 (.load false 1 (.r 11)), jt 2 (.callv false (.r 3) [(.r 8), (.r 12)]), jt 2 (.bin false .lss (.r 13) (jc 0)), jt 2 (.not (.r 14)), js 22 (.pick (.r 2) (.r 15) (.c (.bool false)))])
  (.cond (.v 22) (.seq (jr [jn (.mov (.v 0)), jn (.mov (.v 1)), jn (.mov (.v 2)), jn (.mov (.v 8)), jn (.mov (.v 4)), jn (.callm w8f [(.r 0), (.r 1), (.r 2), (.r 3), (.r 4)]), js 10 (.mov (.r 5))])
  (.seq (jr [jn (.mov (.v 10)), js 1 (.mov (.r 0))])
  (.exit 1))) .skip))
  (.seq (jr [jn (.mov (.v 0)), jn (.mov (.v 1)), jn (.mov (.v 2)), jn (.mov (.v 8)), jn (.mov (.v 4)), jn (.callm w8e [(.r 0), (.r 1), (.r 2), (.r 3), (.r 4)]), jn (.mov (.r 5)), jn (.extract (.r 6) 0), jn (.extract (.r 6) 1), js 11 (.mov (.r 7)), js 12 (.mov (.r 8))])
  (.seq (jr [jn (.mov (.v 12)), js 6 (.mov (.r 0))])
  (.seq (jr [jn (.mov (.v 11)), jn (.mov (.v 1)), jn (.bin false .sub (.r 0) (.r 1)), jn (.mov (.v 2)), jn (.mov (.v 11)), jn (.bin false .sub (.r 3) (.r 4)), js 13 (.mov (.r 2)), js 14 (.mov (.r 5))])
  (.seq (jr [jn (.mov (.v 7)), jn (.bin false .quo (.r 0) (jc 8)), js 15 (.mov (.r 1))])
  (.seq (jr [jn (.mov (.v 13)), jn (.mov (.v 14)), js 23 (.bin false .lss (.r 0) (.r 1))])
  (.cond (.v 23) (.seq (jr [jn (.mov (.v 13)), jn (.mov (.v 15)), jn (.bin false .geq (.r 0) (.r 1)), js 5 (.mov (.r 2))])
  (.seq (jr [jn (.mov (.v 0)), jn (.mov (.v 1)), jn (.mov (.v 11)), jn (.mov (.v 3)), jn (.mov (.v 4)), jn (.callm w8g [(.r 0), (.r 1), (.r 2), (.r 3), (.r 4)])])
  (jr [jn (.mov (.v 11)), jn (.bin false .add (.r 0) (jc 1)), js 1 (.mov (.r 1))]))) (.seq (jr [jn (.mov (.v 14)), jn (.mov (.v 15)), jn (.bin false .geq (.r 0) (.r 1)), js 5 (.mov (.r 2))])
  (.seq (jr [jn (.mov (.v 0)), jn (.mov (.v 11)), jn (.bin false .add (.r 1) (jc 1)), jn (.mov (.v 2)), jn (.mov (.v 3)), jn (.mov (.v 4)), jn (.callm w8g [(.r 0), (.r 2), (.r 3), (.r 4), (.r 5)])])
  (jr [jn (.mov (.v 11)), js 2 (.mov (.r 0))])))))))))))))))))))))),
  []⟩
def wc6 : IFun := ⟨[0, 1, 4],
  (.seq (jr [jn (.mov (.v 0)), jn (.len false (.r 0)), js 2 (.mov (.r 1))])
  (jr [jn (.mov (.v 0)), jn (.mov (.v 2)), jn (.mov (.v 2)), jn (.conv .u64 (.r 2)), jn (.call false w7n [(.r 3)]), jn (.mov (.v 1)), jn (.callm w8g [(.r 0), (jc 0), (.r 1), (.r 4), (.r 5)])])),
  []⟩
def wat : IFun := ⟨[0, 2],
  (.seq (jr [js 1 (.mov (.c (.bool false)))])
  (.seq (jr [jn (.mov (.v 0)), jn (.mov (.v 0)), jn (.bin false .neq (.r 0) (.r 1)), js 1 (.mov (.r 2))])
  .ret)),
  [.v 1]⟩
def war : IFun := ⟨[0, 1, 4, 5, 6, 11, 12, 13, 16, 19],
  (.seq (jr [js 2 (.mov (jc 0))])
  (.seq (jr [jn (.mov (.v 0)), jn (.call false w6q [(.r 0)]), js 3 (.mov (.r 1))])
  (.seq (jr [jn (.mov (.v 1)), jn (.call false w6q [(.r 0)]), js 4 (.mov (.r 1))])
  (.seq (.seq (jr [js 5 (.mov (.v 3))])
  (.cond (.v 5) (.seq (.seq (jr [js 6 (.mov (.v 4))])
  (.cond (.v 6) (.seq (jr [js 2 (.mov (jc 0))])
  .ret) .skip))
  (.seq (jr [js 2 (.mov (jc (-1)))])
  .ret)) .skip))
  (.seq (.seq (jr [js 7 (.mov (.v 4))])
  (.cond (.v 7) (.seq (jr [js 2 (.mov (jc 1))])
  .ret) .skip))
  (.seq (.seq (jr [jn (.mov (.v 0)), jn (.mov (.v 1)), js 8 (.bin false .lss (.r 0) (.r 1))])
  (.cond (.v 8) (.seq (jr [js 2 (.mov (jc (-1)))])
  .ret) .skip))
  (.seq (.seq (jr [jn (.mov (.v 0)), jn (.mov (.v 1)), js 9 (.bin false .gtr (.r 0) (.r 1))])
  (.cond (.v 9) (.seq (jr [js 2 (.mov (jc 1))])
  .ret) .skip))
  (.seq (jr [js 2 (.mov (jc 0))])
  .ret)))))))),
  [.v 2]⟩
def wbv : IFun := ⟨[0, 1, 4, 5, 6, 7, 8, 9, 10, 11, 12, 19, 28, 35],
  (.seq (jr [js 2 (.mov (jc 0))])
  (.seq (.seq (jr [js 7 (.mov (.v 0)), js 8 (.len false (.v 7)), js 9 (.mov (jc 0))])
  (.block 0 (.loop [true, true, false, false, false, false, false, true, true, true, false, false, false, false] (.seq (jr [js 10 (.bin false .lss (.v 9) (.v 8))])
  (.seq (.cond (.v 10) .skip (.exit 0))
  (.seq (.block 1 (.seq (jr [jn (.mov (.v 9)), jn (.iaddr 1 (.v 7) (.v 9)), jn (.load false 1 (.r 1)), js 3 (.mov (.r 0)), js 4 (.mov (.r 2))])
  (.seq (.seq (jr [jn (.mov (.v 3)), jn (.mov (.v 1)), jn (.len false (.r 1)), js 11 (.bin false .geq (.r 0) (.r 2))])
  (.cond (.v 11) (.seq (jr [js 2 (.mov (jc 1))])
  .ret) .skip))
  (.seq (jr [jn (.mov (.v 1)), jn (.mov (.v 3)), jn (.iaddr 1 (.r 0) (.r 1)), jn (.load false 1 (.r 2)), js 5 (.mov (.r 3))])
  (.seq (jr [jn (.mov (.v 4)), jn (.mov (.v 5)), jn (.call false w6p [(.r 0), (.r 1)]), js 6 (.mov (.r 2))])
  (.seq (jr [jn (.mov (.v 6)), js 12 (.bin false .neq (.r 0) (jc 0))])
  (.cond (.v 12) (.seq (jr [jn (.mov (.v 6)), js 2 (.mov (.r 0))])
  .ret) .skip)))))))
  (jr [jn (.bin false .add (.v 9) (jc 1)), js 9 (.mov (.r 0))])))))))
  (.seq (.seq (jr [jn (.mov (.v 0)), jn (.len false (.r 0)), jn (.mov (.v 1)), jn (.len false (.r 2)), js 13 (.bin false .lss (.r 1) (.r 3))])
  (.cond (.v 13) (.seq (jr [js 2 (.mov (jc (-1)))])
  .ret) .skip))
  (.seq (jr [js 2 (.mov (jc 0))])
  .ret)))),
  [.v 2]⟩
def wbu : IFun := ⟨[0, 1, 4, 5, 6, 7, 10, 15, 28, 35, 49],
  (.seq (jr [js 2 (.nilrow wgp false 1)])
  (.seq (.seq (jr [jn (.mov (.v 0)), jn (.len false (.r 0)), js 6 (.bin false .lss (.r 1) (jc 2))])
  (.cond (.v 6) (.seq (jr [jn (.mov (.v 0)), js 2 (.mov (.r 0))])
  .ret) .skip))
  (.seq (.seq (jr [js 3 (.mov (jc 1))])
  (.block 0 (.loop [true, true, false, true, false, false, false, false, false, false, false] (.seq (.seq (jr [jn (.mov (.v 3)), jn (.mov (.v 0)), jn (.len false (.r 1)), js 7 (.bin false .lss (.r 0) (.r 2))])
  (.cond (.v 7) .skip (.exit 0)))
  (.seq (.block 1 (.seq (.region true [] [jn (.mov (.v 1)), jn (.mov (.v 0)), jn (.mov (.v 3)), jn (.iaddr 1 (.r 1) (.r 2)), jn (.load false 1 (.r 3)), jn (.mov (.v 0)), jn (.mov (.v 3)), jn (.bin false .sub (.r 6) (jc 1)), jn (.iaddr 1 (.r 5) (.r 7)), jn (.load false 1 (.r 8)), js 8 (.callv false (.r 0) [(.r 4), (.r 9)])])
  (.cond (.v 8) (.seq (jr [jn (.mov (.v 0)), jn (.mov (.v 3)), jn (.slice 1 (.r 0) (some (.r 1)) none), js 4 (.mov (.r 2))])
  (.seq (.seq (jr [js 5 (.mov (jc 1))])
  (.block 2 (.loop [true, true, false, true, true, true, false, false, false, false, false] (.seq (.seq (jr [jn (.mov (.v 5)), jn (.mov (.v 4)), jn (.len false (.r 1)), js 9 (.bin false .lss (.r 0) (.r 2))])
  (.cond (.v 9) .skip (.exit 2)))
  (.seq (.block 3 (.seq (.region true [] [jn (.mov (.v 1)), jn (.mov (.v 4)), jn (.mov (.v 5)), jn (.iaddr 1 (.r 1) (.r 2)), jn (.load false 1 (.r 3)), jn (.mov (.v 4)), jn (.mov (.v 5)), jn (.bin false .sub (.r 6) (jc 1)), jn (.iaddr 1 (.r 5) (.r 7)), jn (.load false 1 (.r 8)), jn (.callv false (.r 0) [(.r 4), (.r 9)]), js 10 (.not (.r 10))])
  (.cond (.v 10) (.seq (jr [jn (.mov (.v 0)), jn (.mov (.v 3)), jn (.mov (.v 4)), jn (.mov (.v 5)), jn (.iaddr 1 (.r 2) (.r 3)), jn (.load false 1 (.r 4)), jn (.iaddr 1 (.r 0) (.r 1)), jn (.store 1 (.r 6) (.r 5))])
  (jr [jn (.mov (.v 3)), jn (.bin false .add (.r 0) (jc 1)), js 3 (.mov (.r 1))])) .skip)))
  (jr [jn (.mov (.v 5)), jn (.bin false .add (.r 0) (jc 1)), js 5 (.mov (.r 1))]))))))
  (.seq (jr [jn (.mov (.v 0)), jn (.mov (.v 3)), jn (.slice 1 (.r 0) (some (.r 1)) none), jn (.clr (.nil true 1) (.r 2))])
  (.seq (jr [jn (.mov (.v 0)), jn (.mov (.v 3)), jn (.slice 1 (.r 0) none (some (.r 1))), js 2 (.mov (.r 2))])
  .ret)))) .skip)))
  (jr [jn (.mov (.v 3)), jn (.bin false .add (.r 0) (jc 1)), js 3 (.mov (.r 1))]))))))
  (.seq (jr [jn (.mov (.v 0)), js 2 (.mov (.r 0))])
  .ret)))),
  [.v 2]⟩
def wc1 : IFun := ⟨[0, 1, 4, 5, 10, 12, 13, 14, 24],
  (.seq (jr [js 2 (.mov (.c (.bool false)))])
  (.seq (.seq (jr [jn (.mov (.v 0)), jn (.len false (.r 0)), jn (.mov (.v 1)), jn (.len false (.r 2)), js 4 (.bin false .neq (.r 1) (.r 3))])
  (.cond (.v 4) (.seq (jr [js 2 (.mov (.c (.bool false)))])
  .ret) .skip))
  (.seq (.seq (jr [jn (.mov (.v 0)), js 5 (.len false (.r 0)), js 6 (.mov (jc 0))])
  (.block 0 (.loop [true, true, false, false, false, true, true, false, false] (.seq (jr [js 7 (.bin false .lss (.v 6) (.v 5))])
  (.seq (.cond (.v 7) .skip (.exit 0))
  (.seq (.block 1 (.seq (jr [jn (.mov (.v 6)), js 3 (.mov (.r 0))])
  (.seq (.region true [] [jn (.mov (.v 0)), jn (.mov (.v 3)), jn (.iaddr 1 (.r 0) (.r 1)), jn (.load false 1 (.r 2)), jn (.mov (.v 1)), jn (.mov (.v 3)), jn (.iaddr 1 (.r 4) (.r 5)), jn (.load false 1 (.r 6)), js 8 (.bin false .neq (.r 3) (.r 7))])
  (.cond (.v 8) (.seq (jr [js 2 (.mov (.c (.bool false)))])
  .ret) .skip))))
  (jr [jn (.bin false .add (.v 6) (jc 1)), js 6 (.mov (.r 0))])))))))
  (.seq (jr [js 2 (.mov (.c (.bool true)))])
  .ret)))),
  [.v 2]⟩
def wbc : IFun := ⟨[0, 1, 4, 5, 6, 7, 8, 9, 10, 19],
  (.seq (jr [js 2 (.mov (.c (.bool false)))])
  (.seq (.seq (jr [js 5 (.mov (.v 0)), js 6 (.len false (.v 5)), js 7 (.mov (jc 0))])
  (.block 0 (.loop [false, true, false, false, false, true, true, true, false, false] (.seq (jr [js 8 (.bin false .lss (.v 7) (.v 6))])
  (.seq (.cond (.v 8) .skip (.exit 0))
  (.seq (.block 1 (.seq (jr [jn (.mov (.v 7)), jn (.iaddr 1 (.v 5) (.v 7)), jn (.load false 1 (.r 1)), js 3 (.mov (.r 0)), js 4 (.mov (.r 2))])
  (.seq (jr [jn (.mov (.v 4)), jn (.mov (.v 1)), jn (.mov (.v 3)), jn (.iaddr 1 (.r 1) (.r 2)), jn (.load false 1 (.r 3)), js 9 (.bin false .lss (.r 0) (.r 4))])
  (.cond (.v 9) (.seq (jr [js 2 (.mov (.c (.bool false)))])
  .ret) .skip))))
  (jr [jn (.bin false .add (.v 7) (jc 1)), js 7 (.mov (.r 0))])))))))
  (.seq (jr [js 2 (.mov (.c (.bool true)))])
  .ret))),
  [.v 2]⟩
def wbk : IFun := ⟨[0, 2, 3, 4, 5, 6, 7, 8, 9, 16, 17, 18, 19, 23, 24, 25, 26, 43],
  (.seq (jr [js 1 (.nilrow wgp false 1)])
  (.seq (jr [jn (.mov (.v 0)), jn (.call false w7r [(.r 0)]), js 2 (.mov (.r 1))])
  (.seq (jr [jn (.mov (.v 2)), jn (.callm w84 [(.r 0), (.c (.clo w7t []))])])
  (.seq (jr [jn (.mov (.v 2)), jn (.callm w7s [(.r 0), (.c (.clo w7z []))]), js 2 (.mov (.r 1))])
  (.seq (jr [js 3 (.nilrow wgp false 1)])
  (.seq (.seq (jr [js 9 (.mov (.v 2)), js 10 (.len false (.v 9)), js 11 (.mov (jc 0))])
  (.block 0 (.loop [false, false, true, true, false, false, false, false, false, true, true, true, false, false, false, false, false, false] (.seq (jr [js 12 (.bin false .lss (.v 11) (.v 10))])
  (.seq (.cond (.v 12) .skip (.exit 0))
  (.seq (.block 1 (.seq (jr [jn (.mov (.v 11)), jn (.iaddr 1 (.v 9) (.v 11)), jn (.load false 1 (.r 1)), js 4 (.mov (.r 0)), js 5 (.mov (.r 2))])
  (.seq (jr [js 6 (.mov (.c (.bool true)))])
  (.seq (.seq (jr [js 13 (.mov (.v 2)), js 14 (.len false (.v 13)), js 15 (.mov (jc 0))])
  (.block 2 (.loop [false, false, true, true, true, true, true, false, false, true, true, true, false, true, true, true, false, false] (.seq (jr [js 16 (.bin false .lss (.v 15) (.v 14))])
  (.seq (.cond (.v 16) .skip (.exit 2))
  (.seq (.block 3 (.seq (jr [jn (.mov (.v 15)), jn (.iaddr 1 (.v 13) (.v 15)), jn (.load false 1 (.r 1)), js 7 (.mov (.r 0)), js 8 (.mov (.r 2))])
  (jr [jn (.mov (.v 6)), jn (.mov (.r 0)), jt 1 (.mov (.v 4)), jt 1 (.mov (.v 7)), jt 1 (.bin false .eql (.r 2) (.r 3)), jt 1 (.mov (.r 4)), jf 5 (.mov (.v 5)), jf 5 (.mov (.v 8)), jf 5 (.call false w78 [(.r 6), (.r 7)]), jf 5 (.not (.r 8)), jt 1 (.pick (.r 5) (.c (.bool true)) (.r 9)), jn (.pick (.r 1) (.r 10) (.c (.bool false))), js 6 (.mov (.r 11))])))
  (jr [jn (.bin false .add (.v 15) (jc 1)), js 15 (.mov (.r 0))])))))))
  (.seq (jr [js 17 (.mov (.v 6))])
  (.cond (.v 17) (jr [jn (.mov (.v 3)), jn (.mov (.v 5)), jn (.call false w7q [(.r 1)]), jn (.bslice false wgp false 1 [(.r 2)]), jn (.append wgp false 1 (.r 0) (.r 3)), js 3 (.mov (.r 4))]) .skip))))))
  (jr [jn (.bin false .add (.v 11) (jc 1)), js 11 (.mov (.r 0))])))))))
  (.seq (jr [jn (.mov (.v 3)), js 1 (.mov (.r 0))])
  .ret))))))),
  [.v 1]⟩
def wc0 : IFun := ⟨[0, 1, 2, 6, 7, 8, 9, 14, 15, 16, 17, 18, 30],
  (.seq (jr [js 3 (.mov (.c (.bool false)))])
  (.seq (.seq (jr [jn (.mov (.v 0)), jn (.len false (.r 0)), jn (.mov (.v 1)), jn (.len false (.r 2)), js 7 (.bin false .neq (.r 1) (.r 3))])
  (.cond (.v 7) (.seq (jr [js 3 (.mov (.c (.bool false)))])
  .ret) .skip))
  (.seq (.seq (jr [js 8 (.mov (.v 0)), js 9 (.len false (.v 8)), js 10 (.mov (jc 0))])
  (.block 0 (.loop [false, true, true, false, false, false, false, false, true, true, true, false, false] (.seq (jr [js 11 (.bin false .lss (.v 10) (.v 9))])
  (.seq (.cond (.v 11) .skip (.exit 0))
  (.seq (.block 1 (.seq (jr [jn (.mov (.v 10)), jn (.iaddr 1 (.v 8) (.v 10)), jn (.load false 1 (.r 1)), js 4 (.mov (.r 0)), js 5 (.mov (.r 2))])
  (.seq (jr [jn (.mov (.v 1)), jn (.mov (.v 4)), jn (.iaddr 1 (.r 0) (.r 1)), jn (.load false 1 (.r 2)), js 6 (.mov (.r 3))])
  (.seq (jr [jn (.mov (.v 2)), jn (.mov (.v 5)), jn (.mov (.v 6)), jn (.callv false (.r 0) [(.r 1), (.r 2)]), js 12 (.not (.r 3))])
  (.cond (.v 12) (.seq (jr [js 3 (.mov (.c (.bool false)))])
  .ret) .skip)))))
  (jr [jn (.bin false .add (.v 10) (jc 1)), js 10 (.mov (.r 0))])))))))
  (.seq (jr [js 3 (.mov (.c (.bool true)))])
  .ret)))),
  [.v 3]⟩
def wbb : IFun := ⟨[0, 1, 2, 3, 6, 7, 8, 9, 10, 11, 13, 15, 16, 17, 18, 27, 35, 36, 37, 38, 42, 43, 44, 45, 55, 58, 70, 73],
  (.seq (jr [js 3 (.box wgm 2 (.v 0)), js 4 (.nilrow wgp false 1), js 5 (.mov (jc 0)), js 6 (.mov (.c (.bool false)))])
  (.seq (.seq (jr [jn (.load true 2 (.v 3)), jn (.mov (.v 1)), jn (.call false w7f [(.r 0), (.r 1)]), jn (.not (.r 2)), jn (.mov (.r 3)), jf 4 (.mov (.v 2)), jf 4 (.call false w7i [(.r 5), (jc 1), (jc 60)]), jf 4 (.not (.r 6)), js 15 (.pick (.r 4) (.c (.bool true)) (.r 7))])
  (.cond (.v 15) (.seq (jr [js 4 (.nilrow wgp false 1), js 5 (.mov (jc 0)), js 6 (.mov (.c (.bool false)))])
  .ret) .skip))
  (.seq (jr [jn (.mov (.v 1)), jn (.call false w7q [(.r 0)]), jn (.bslice false wgp false 1 [(.r 1)]), js 7 (.mov (.r 2))])
  (.seq (jr [js 8 (.mov (jc 0))])
  (.block 0 (.loop [false, false, true, true, false, false, false, true, true, false, false, false, false, false, false, false, false, false, false, false, false, false, false, false, false, false, false, false] (.seq (.block 1 (.seq (jr [jn (.mov (.v 7)), jn (.call false w7r [(.r 0)]), js 9 (.mov (.r 1))])
  (.seq (.seq (jr [js 16 (.mov (.v 7)), js 17 (.len false (.v 16)), js 18 (.mov (jc 0))])
  (.block 2 (.loop [false, false, true, true, false, false, false, true, true, true, false, false, false, false, false, false, true, true, true, false, false, false, false, false, false, false, false, false] (.seq (jr [js 19 (.bin false .lss (.v 18) (.v 17))])
  (.seq (.cond (.v 19) .skip (.exit 2))
  (.seq (.block 3 (.seq (jr [jn (.iaddr 1 (.v 16) (.v 18)), jn (.load false 1 (.r 0)), js 10 (.mov (.r 1))])
  (.seq (jr [jn (.faddr 1 (.v 3)), js 20 (.load false 1 (.r 0)), js 21 (.len false (.v 20)), js 22 (.mov (jc 0))])
  (.block 4 (.loop [false, false, true, true, false, false, false, true, true, true, true, false, false, false, false, false, true, true, true, false, true, true, true, false, false, false, false, false] (.seq (jr [js 23 (.bin false .lss (.v 22) (.v 21))])
  (.seq (.cond (.v 23) .skip (.exit 4))
  (.seq (.block 5 (.seq (jr [jn (.iaddr 3 (.v 20) (.v 22)), jn (.load true 3 (.r 0)), js 11 (.alloc wgo [(.nil true 1), (.nil true 1), (.nil true 1)]), jn (.store 3 (.v 11) (.r 1))])
  (.seq (jr [jn (.load true 3 (.v 11)), jn (.mov (.v 10)), jn (.call false w7h [(.r 0), (.r 1)]), jn (.mov (.r 2)), jn (.extract (.r 3) 0), jn (.extract (.r 3) 1), js 12 (.mov (.r 4)), js 13 (.mov (.r 5))])
  (.seq (.seq (jr [jn (.mov (.v 13)), js 24 (.not (.r 0))])
  (.cond (.v 24) (.exit 5) .skip))
  (.seq (.seq (jr [jn (.mov (.v 12)), jn (.call false w73 [(.r 0), (jc 0), (jc 50)]), js 25 (.not (.r 1))])
  (.cond (.v 25) (.seq (jr [js 4 (.nilrow wgp false 1), js 5 (.mov (jc 0)), js 6 (.mov (.c (.bool false)))])
  .ret) .skip))
  (jr [jn (.mov (.v 9)), jn (.mov (.v 12)), jn (.bslice false wgp false 1 [(.r 1)]), jn (.append wgp false 1 (.r 0) (.r 2)), js 9 (.mov (.r 3))]))))))
  (jr [jn (.bin false .add (.v 22) (jc 1)), js 22 (.mov (.r 0))])))))))))
  (jr [jn (.bin false .add (.v 18) (jc 1)), js 18 (.mov (.r 0))])))))))
  (.seq (jr [jn (.mov (.v 9)), jn (.call false w7g [(.r 0)]), js 14 (.mov (.r 1))])
  (.seq (.seq (jr [jn (.mov (.v 14)), jn (.len false (.r 0)), jn (.mov (.v 2)), js 26 (.bin false .gtr (.r 1) (.r 2))])
  (.cond (.v 26) (.seq (jr [js 4 (.nilrow wgp false 1), js 5 (.mov (jc 0)), js 6 (.mov (.c (.bool false)))])
  .ret) .skip))
  (.seq (.seq (jr [jn (.mov (.v 14)), jn (.mov (.v 7)), js 27 (.call false w7y [(.r 0), (.r 1), (.c (.clo w7z []))])])
  (.cond (.v 27) (.seq (jr [jn (.mov (.v 7)), jn (.mov (.v 8)), js 4 (.mov (.r 0)), js 5 (.mov (.r 1)), js 6 (.mov (.c (.bool true)))])
  .ret) .skip))
  (jr [jn (.mov (.v 14)), js 7 (.mov (.r 0))])))))))
  (jr [jn (.mov (.v 8)), jn (.bin false .add (.r 0) (jc 1)), js 8 (.mov (.r 1))])))))))),
  [.v 4, .v 5, .v 6]⟩
def waz : IFun := ⟨[0, 1, 3],
  (.seq (jr [js 2 (.mov (.c (.bool false)))])
  (.seq (jr [jn (.load false 1 (.v 1)), jn (.mov (.v 0)), jn (.call false w78 [(.r 0), (.r 1)]), js 2 (.mov (.r 2))])
  .ret)),
  [.v 2]⟩
def wc4 : IFun := ⟨[0, 1, 4, 5, 7, 8, 9, 16],
  (.seq (jr [js 2 (.mov (jc 0))])
  (.seq (.seq (jr [jn (.mov (.v 0)), js 4 (.len false (.r 0)), js 5 (.mov (jc 0))])
  (.block 0 (.loop [true, true, false, false, true, true, false, false] (.seq (jr [js 6 (.bin false .lss (.v 5) (.v 4))])
  (.seq (.cond (.v 6) .skip (.exit 0))
  (.seq (.block 1 (.seq (jr [jn (.mov (.v 5)), js 3 (.mov (.r 0))])
  (.seq (jr [jn (.mov (.v 1)), jn (.mov (.v 0)), jn (.mov (.v 3)), jn (.iaddr 1 (.r 1) (.r 2)), jn (.load false 1 (.r 3)), js 7 (.callv false (.r 0) [(.r 4)])])
  (.cond (.v 7) (.seq (jr [jn (.mov (.v 3)), js 2 (.mov (.r 0))])
  .ret) .skip))))
  (jr [jn (.bin false .add (.v 5) (jc 1)), js 5 (.mov (.r 0))])))))))
  (.seq (jr [js 2 (.mov (jc (-1)))])
  .ret))),
  [.v 2]⟩
def wby : IFun := ⟨[0, 1, 4],
  (.seq (jr [js 2 (.mov (.c (.bool false)))])
  (.seq (jr [jn (.mov (.v 0)), jn (.mov (.v 1)), jn (.call false w82 [(.r 0), (.r 1)]), jn (.bin false .geq (.r 2) (jc 0)), js 2 (.mov (.r 3))])
  .ret)),
  [.v 2]⟩
def wax : IFun := ⟨[0, 1, 2, 3, 4, 5, 8, 9, 10, 12, 29],
  (.seq (jr [js 4 (.box wgm 2 (.v 0)), js 5 (.box wgp 1 (.v 1)), js 6 (.mov (.c (.bool false))), js 7 (.mov (.c (.bool false)))])
  (.seq (jr [jn (.load true 2 (.v 4)), jn (.mov (.v 2)), jn (.mov (.v 3)), jn (.call false w77 [(.r 0), (.r 1), (.r 2)]), jn (.mov (.r 3)), jn (.extract (.r 4) 0), jn (.extract (.r 4) 1), jn (.extract (.r 4) 2), js 8 (.mov (.r 5)), jn (.mov (.r 6)), js 9 (.mov (.r 7))])
  (.seq (.seq (jr [jn (.mov (.v 9)), jn (.not (.r 0)), jn (.mov (.r 1)), jf 2 (.faddr 0 (.v 4)), jf 2 (.load false 1 (.r 3)), jf 2 (.load false 1 (.v 5)), jf 2 (.call false w6x [(.r 4), (.r 5)]), jf 2 (.not (.r 6)), js 10 (.pick (.r 2) (.c (.bool true)) (.r 7))])
  (.cond (.v 10) (.seq (jr [js 6 (.mov (.c (.bool false))), js 7 (.mov (.c (.bool false)))])
  .ret) .skip))
  (.seq (jr [jn (.mov (.v 8)), jn (.mkfn w6v [(.v 5)]), jn (.call false w7w [(.r 0), (.r 1)]), js 6 (.mov (.r 2)), js 7 (.mov (.c (.bool true)))])
  .ret)))),
  [.v 6, .v 7]⟩
def wdu : IFun := ⟨[0, 1, 2, 3, 6],
  (.seq (jr [js 3 (.box wgm 2 (.v 0)), js 4 (.mov (.c (.bool false)))])
  (.seq (jr [jn (.load true 2 (.v 3)), jn (.mov (.v 1)), jn (.call false w9n [(.r 0), (.r 1)]), jn (.mov (.r 2)), jt 3 (.mov (.v 2)), jt 3 (.call false w9b [(.r 4), (jc 1), (jc 60)]), jn (.pick (.r 3) (.r 5) (.c (.bool false))), js 4 (.mov (.r 6))])
  .ret)),
  [.v 4]⟩
def wdx : IFun := ⟨[0, 1, 2, 4, 5, 6, 7, 8, 9, 10, 11, 12, 13, 14, 21, 25, 29, 32],
  (.seq (jr [js 2 (.box wgo 3 (.v 0)), js 3 (.nilrow t_int true 1), js 4 (.mov (.c (.bool false)))])
  (.seq (jr [js 5 (.nilrow t_int true 1)])
  (.seq (.seq (jr [js 10 (.mov (.v 1)), js 11 (.len false (.v 10)), js 12 (.mov (jc 0))])
  (.block 0 (.loop [false, false, true, false, false, true, false, false, false, false, true, true, true, false, false, false, false, false] (.seq (jr [js 13 (.bin false .lss (.v 12) (.v 11))])
  (.seq (.cond (.v 13) .skip (.exit 0))
  (.seq (.block 1 (.seq (jr [jn (.mov (.v 12)), jn (.iaddr 1 (.v 10) (.v 12)), jn (.load false 1 (.r 1)), js 6 (.mov (.r 0)), js 7 (.mov (.r 2))])
  (.seq (jr [js 8 (.mov (jc 0))])
  (.seq (.seq (jr [jn (.faddr 1 (.v 2)), jn (.load false 1 (.r 0)), jn (.mov (.v 6)), js 14 (.call false w9a [(.r 1), (.r 2)])])
  (.cond (.v 14) (jr [js 8 (.mov (jc 1))]) .skip))
  (.seq (jr [js 9 (.mov (jc 0))])
  (.seq (.seq (jr [jn (.faddr 0 (.v 2)), jn (.load false 1 (.r 0)), jn (.mov (.v 6)), js 15 (.call false w9a [(.r 1), (.r 2)])])
  (.cond (.v 15) (jr [js 9 (.mov (jc 1))]) .skip))
  (.seq (.seq (jr [jn (.faddr 2 (.v 2)), jn (.load false 1 (.r 0)), jn (.mov (.v 6)), js 16 (.call false w9a [(.r 1), (.r 2)])])
  (.cond (.v 16) (.seq (.seq (jr [jn (.mov (.v 7)), jn (.mov (.v 8)), js 17 (.bin false .gtr (.r 0) (.r 1))])
  (.cond (.v 17) (.seq (jr [js 3 (.nilrow t_int true 1), js 4 (.mov (.c (.bool false)))])
  .ret) .skip))
  (.seq (jr [jn (.mov (.v 5)), jn (.mov (.v 9)), jn (.bslice false t_int true 1 [(.r 1)]), jn (.append t_int true 1 (.r 0) (.r 2)), js 5 (.mov (.r 3))])
  (.exit 1))) .skip))
  (jr [jn (.mov (.v 5)), jn (.mov (.v 7)), jn (.mov (.v 8)), jn (.bin false .sub (.r 1) (.r 2)), jn (.call false w9e [(jc 0), (.r 3)]), jn (.mov (.v 9)), jn (.bin false .add (.r 4) (.r 5)), jn (.bslice false t_int true 1 [(.r 6)]), jn (.append t_int true 1 (.r 0) (.r 7)), js 5 (.mov (.r 8))]))))))))
  (jr [jn (.bin false .add (.v 12) (jc 1)), js 12 (.mov (.r 0))])))))))
  (.seq (jr [jn (.mov (.v 5)), js 3 (.mov (.r 0)), js 4 (.mov (.c (.bool true)))])
  .ret)))),
  [.v 3, .v 4]⟩
def wcz : IFun := ⟨[0, 1, 4, 5, 6, 7, 8, 9, 10, 19],
  (.seq (jr [js 2 (.mov (.c (.bool false)))])
  (.seq (.seq (jr [js 5 (.mov (.v 1)), js 6 (.len false (.v 5)), js 7 (.mov (jc 0))])
  (.block 0 (.loop [true, false, false, false, false, true, true, true, false, false] (.seq (jr [js 8 (.bin false .lss (.v 7) (.v 6))])
  (.seq (.cond (.v 8) .skip (.exit 0))
  (.seq (.block 1 (.seq (jr [jn (.mov (.v 7)), jn (.iaddr 1 (.v 5) (.v 7)), jn (.load false 1 (.r 1)), js 3 (.mov (.r 0)), js 4 (.mov (.r 2))])
  (.seq (jr [jn (.mov (.v 0)), jn (.mov (.v 3)), jn (.iaddr 1 (.r 0) (.r 1)), jn (.load false 1 (.r 2)), jn (.mov (.v 4)), js 9 (.bin false .lss (.r 3) (.r 4))])
  (.cond (.v 9) (.seq (jr [js 2 (.mov (.c (.bool false)))])
  .ret) .skip))))
  (jr [jn (.bin false .add (.v 7) (jc 1)), js 7 (.mov (.r 0))])))))))
  (.seq (jr [js 2 (.mov (.c (.bool true)))])
  .ret))),
  [.v 2]⟩
def wdl : IFun := ⟨[0, 1, 4, 5, 10, 12, 13, 14, 24],
  (.seq (jr [js 2 (.mov (.c (.bool false)))])
  (.seq (.seq (jr [jn (.mov (.v 0)), jn (.len false (.r 0)), jn (.mov (.v 1)), jn (.len false (.r 2)), js 4 (.bin false .neq (.r 1) (.r 3))])
  (.cond (.v 4) (.seq (jr [js 2 (.mov (.c (.bool false)))])
  .ret) .skip))
  (.seq (.seq (jr [jn (.mov (.v 0)), js 5 (.len false (.r 0)), js 6 (.mov (jc 0))])
  (.block 0 (.loop [true, true, false, false, false, true, true, false, false] (.seq (jr [js 7 (.bin false .lss (.v 6) (.v 5))])
  (.seq (.cond (.v 7) .skip (.exit 0))
  (.seq (.block 1 (.seq (jr [jn (.mov (.v 6)), js 3 (.mov (.r 0))])
  (.seq (.region true [] [jn (.mov (.v 0)), jn (.mov (.v 3)), jn (.iaddr 1 (.r 0) (.r 1)), jn (.load false 1 (.r 2)), jn (.mov (.v 1)), jn (.mov (.v 3)), jn (.iaddr 1 (.r 4) (.r 5)), jn (.load false 1 (.r 6)), js 8 (.bin false .neq (.r 3) (.r 7))])
  (.cond (.v 8) (.seq (jr [js 2 (.mov (.c (.bool false)))])
  .ret) .skip))))
  (jr [jn (.bin false .add (.v 6) (jc 1)), js 6 (.mov (.r 0))])))))))
  (.seq (jr [js 2 (.mov (.c (.bool true)))])
  .ret)))),
  [.v 2]⟩
def wcy : IFun := ⟨[0, 1, 4, 5, 7, 8, 9, 19, 28],
  (.seq (jr [js 2 (.mov (jc 0))])
  (.seq (.seq (jr [jn (.mov (.v 0)), js 4 (.len false (.r 0)), js 5 (.mov (jc 0))])
  (.block 0 (.loop [true, true, false, false, true, true, false, false, false] (.seq (jr [js 6 (.bin false .lss (.v 5) (.v 4))])
  (.seq (.cond (.v 6) .skip (.exit 0))
  (.seq (.block 1 (.seq (jr [jn (.mov (.v 5)), js 3 (.mov (.r 0))])
  (.seq (.seq (.region true [] [jn (.mov (.v 0)), jn (.mov (.v 3)), jn (.iaddr 1 (.r 0) (.r 1)), jn (.load false 1 (.r 2)), jn (.mov (.v 1)), jn (.mov (.v 3)), jn (.iaddr 1 (.r 4) (.r 5)), jn (.load false 1 (.r 6)), js 7 (.bin false .lss (.r 3) (.r 7))])
  (.cond (.v 7) (.seq (jr [js 2 (.mov (jc (-1)))])
  .ret) .skip))
  (.seq (.region true [] [jn (.mov (.v 0)), jn (.mov (.v 3)), jn (.iaddr 1 (.r 0) (.r 1)), jn (.load false 1 (.r 2)), jn (.mov (.v 1)), jn (.mov (.v 3)), jn (.iaddr 1 (.r 4) (.r 5)), jn (.load false 1 (.r 6)), js 8 (.bin false .gtr (.r 3) (.r 7))])
  (.cond (.v 8) (.seq (jr [js 2 (.mov (jc 1))])
  .ret) .skip)))))
  (jr [jn (.bin false .add (.v 5) (jc 1)), js 5 (.mov (.r 0))])))))))
  (.seq (jr [js 2 (.mov (jc 0))])
  .ret))),
  [.v 2]⟩
def wde : IFun := ⟨[0, 1, 4, 5, 6, 8, 9, 10, 11, 12, 13, 20, 27, 38],
  (.seq (jr [js 2 (.nilrow wgp false 1)])
  (.seq (jr [js 3 (.nilrow wgp false 1)])
  (.seq (jr [js 4 (.mov (.c (.bool false)))])
  (.seq (.seq (jr [js 7 (.mov (.v 0)), js 8 (.len false (.v 7)), js 9 (.mov (jc 0))])
  (.block 0 (.loop [true, true, false, true, true, false, false, true, true, true, false, false, false, false] (.seq (jr [js 10 (.bin false .lss (.v 9) (.v 8))])
  (.seq (.cond (.v 10) .skip (.exit 0))
  (.seq (.block 1 (.seq (jr [jn (.iaddr 1 (.v 7) (.v 9)), jn (.load false 1 (.r 0)), js 5 (.mov (.r 1))])
  (.seq (jr [jn (.mov (.v 1)), jn (.mov (.v 5)), jn (.call false w8w [(.r 0), (.r 1)]), js 6 (.mov (.r 2))])
  (.seq (.seq (jr [jn (.mov (.v 6)), js 11 (.bin false .eql (.r 0) (jc 0))])
  (.cond (.v 11) (.seq (jr [jn (.mov (.v 0)), js 2 (.mov (.r 0))])
  .ret) .skip))
  (.seq (.seq (jr [jn (.mov (.v 6)), jn (.bin false .lss (.r 0) (jc 0)), jn (.mov (.r 1)), jt 2 (.mov (.v 4)), jt 2 (.not (.r 3)), js 12 (.pick (.r 2) (.r 4) (.c (.bool false)))])
  (.cond (.v 12) (.seq (jr [jn (.mov (.v 3)), jn (.mov (.v 1)), jn (.bslice false wgp false 1 [(.r 1)]), jn (.append wgp false 1 (.r 0) (.r 2)), js 3 (.mov (.r 3))])
  (jr [js 4 (.mov (.c (.bool true)))])) .skip))
  (jr [jn (.mov (.v 3)), jn (.mov (.v 5)), jn (.bslice false wgp false 1 [(.r 1)]), jn (.append wgp false 1 (.r 0) (.r 2)), js 3 (.mov (.r 3))]))))))
  (jr [jn (.bin false .add (.v 9) (jc 1)), js 9 (.mov (.r 0))])))))))
  (.seq (.seq (jr [jn (.mov (.v 4)), js 13 (.not (.r 0))])
  (.cond (.v 13) (jr [jn (.mov (.v 3)), jn (.mov (.v 1)), jn (.bslice false wgp false 1 [(.r 1)]), jn (.append wgp false 1 (.r 0) (.r 2)), js 3 (.mov (.r 3))]) .skip))
  (.seq (jr [jn (.mov (.v 3)), js 2 (.mov (.r 0))])
  .ret)))))),
  [.v 2]⟩
def wdf : IFun := ⟨[0, 2, 3, 5, 6, 8, 9, 10, 11, 12, 15, 16, 17, 18, 34],
  (.seq (jr [js 1 (.nilrow wgp false 1)])
  (.seq (jr [js 2 (.nilrow wgp false 1)])
  (.seq (.seq (jr [js 6 (.mov (.v 0)), js 7 (.len false (.v 6)), js 8 (.mov (jc 0))])
  (.block 0 (.loop [true, false, true, false, false, false, true, true, true, false, false, false, false, false, false] (.seq (jr [js 9 (.bin false .lss (.v 8) (.v 7))])
  (.seq (.cond (.v 9) .skip (.exit 0))
  (.seq (.block 1 (.seq (jr [jn (.iaddr 1 (.v 6) (.v 8)), jn (.load false 1 (.r 0)), js 3 (.mov (.r 1))])
  (.seq (jr [js 4 (.mov (.c (.bool true)))])
  (.seq (.seq (jr [js 10 (.mov (.v 0)), js 11 (.len false (.v 10)), js 12 (.mov (jc 0))])
  (.block 2 (.loop [true, false, true, true, true, false, true, true, true, false, true, true, true, false, false] (.seq (jr [js 13 (.bin false .lss (.v 12) (.v 11))])
  (.seq (.cond (.v 13) .skip (.exit 2))
  (.seq (.block 3 (.seq (jr [jn (.iaddr 1 (.v 10) (.v 12)), jn (.load false 1 (.r 0)), js 5 (.mov (.r 1))])
  (jr [jn (.mov (.v 4)), jn (.mov (.r 0)), jt 1 (.mov (.v 3)), jt 1 (.mov (.v 5)), jt 1 (.call false w8x [(.r 2), (.r 3)]), jt 1 (.not (.r 4)), jt 1 (.mov (.r 5)), jf 6 (.mov (.v 3)), jf 6 (.mov (.v 5)), jf 6 (.call false w9j [(.r 7), (.r 8)]), jt 1 (.pick (.r 6) (.c (.bool true)) (.r 9)), jn (.pick (.r 1) (.r 10) (.c (.bool false))), js 4 (.mov (.r 11))])))
  (jr [jn (.bin false .add (.v 12) (jc 1)), js 12 (.mov (.r 0))])))))))
  (.seq (jr [js 14 (.mov (.v 4))])
  (.cond (.v 14) (jr [jn (.mov (.v 2)), jn (.mov (.v 3)), jn (.call false w9f [(.r 1)]), jn (.call false w9c [(.r 0), (.r 2)]), js 2 (.mov (.r 3))]) .skip))))))
  (jr [jn (.bin false .add (.v 8) (jc 1)), js 8 (.mov (.r 0))])))))))
  (.seq (jr [jn (.mov (.v 2)), js 1 (.mov (.r 0))])
  .ret)))),
  [.v 1]⟩
def wdw : IFun := ⟨[0, 1, 4, 5, 10, 12, 13, 14, 25],
  (.seq (jr [js 2 (.mov (.c (.bool false)))])
  (.seq (.seq (jr [jn (.mov (.v 0)), jn (.len false (.r 0)), jn (.mov (.v 1)), jn (.len false (.r 2)), js 4 (.bin false .neq (.r 1) (.r 3))])
  (.cond (.v 4) (.seq (jr [js 2 (.mov (.c (.bool false)))])
  .ret) .skip))
  (.seq (.seq (jr [jn (.mov (.v 0)), js 5 (.len false (.r 0)), js 6 (.mov (jc 0))])
  (.block 0 (.loop [true, true, false, false, false, true, true, false, false] (.seq (jr [js 7 (.bin false .lss (.v 6) (.v 5))])
  (.seq (.cond (.v 7) .skip (.exit 0))
  (.seq (.block 1 (.seq (jr [jn (.mov (.v 6)), js 3 (.mov (.r 0))])
  (.seq (.region true [] [jn (.mov (.v 0)), jn (.mov (.v 3)), jn (.iaddr 1 (.r 0) (.r 1)), jn (.load false 1 (.r 2)), jn (.mov (.v 1)), jn (.mov (.v 3)), jn (.iaddr 1 (.r 4) (.r 5)), jn (.load false 1 (.r 6)), jn (.call false w9j [(.r 3), (.r 7)]), js 8 (.not (.r 8))])
  (.cond (.v 8) (.seq (jr [js 2 (.mov (.c (.bool false)))])
  .ret) .skip))))
  (jr [jn (.bin false .add (.v 6) (jc 1)), js 6 (.mov (.r 0))])))))))
  (.seq (jr [js 2 (.mov (.c (.bool true)))])
  .ret)))),
  [.v 2]⟩
def wdv : IFun := ⟨[0, 1, 2, 3, 6, 7, 8, 9, 10, 11, 13, 15, 16, 17, 26, 27, 28, 29, 33, 34, 35, 36, 52, 53, 65, 68],
  (.seq (jr [js 3 (.box wgm 2 (.v 0)), js 4 (.nilrow wgp false 1), js 5 (.mov (jc 0)), js 6 (.mov (.c (.bool false)))])
  (.seq (jr [jn (.mov (.v 1)), jn (.call false w9f [(.r 0)]), jn (.bslice false wgp false 1 [(.r 1)]), js 7 (.mov (.r 2))])
  (.seq (jr [js 8 (.mov (jc 0))])
  (.block 0 (.loop [false, false, true, true, false, false, false, true, true, false, false, false, false, false, false, false, false, false, false, false, false, false, false, false, false, false] (.seq (.block 1 (.seq (jr [jn (.bslice false wgp false 1 []), jn (.mov (.v 7)), jn (.append wgp false 1 (.r 0) (.r 1)), js 9 (.mov (.r 2))])
  (.seq (.seq (jr [js 14 (.mov (.v 7)), js 15 (.len false (.v 14)), js 16 (.mov (jc 0))])
  (.block 2 (.loop [false, false, true, true, false, false, false, true, true, true, false, false, false, false, true, true, true, false, false, false, false, false, false, false, false, false] (.seq (jr [js 17 (.bin false .lss (.v 16) (.v 15))])
  (.seq (.cond (.v 17) .skip (.exit 2))
  (.seq (.block 3 (.seq (jr [jn (.iaddr 1 (.v 14) (.v 16)), jn (.load false 1 (.r 0)), js 10 (.mov (.r 1))])
  (.seq (jr [jn (.faddr 1 (.v 3)), js 18 (.load false 1 (.r 0)), js 19 (.len false (.v 18)), js 20 (.mov (jc 0))])
  (.block 4 (.loop [false, false, true, true, false, false, false, true, true, true, true, false, false, false, true, true, true, false, true, true, true, false, false, false, false, false] (.seq (jr [js 21 (.bin false .lss (.v 20) (.v 19))])
  (.seq (.cond (.v 21) .skip (.exit 4))
  (.seq (.block 5 (.seq (jr [jn (.iaddr 3 (.v 18) (.v 20)), jn (.load true 3 (.r 0)), js 11 (.alloc wgo [(.nil true 1), (.nil true 1), (.nil true 1)]), jn (.store 3 (.v 11) (.r 1))])
  (.seq (jr [jn (.load true 3 (.v 11)), jn (.mov (.v 10)), jn (.call false w9v [(.r 0), (.r 1)]), jn (.mov (.r 2)), jn (.extract (.r 3) 0), jn (.extract (.r 3) 1), js 12 (.mov (.r 4)), js 13 (.mov (.r 5))])
  (.seq (.seq (jr [jn (.mov (.v 13)), jn (.mov (.r 0)), jt 1 (.faddr 0 (.v 3)), jt 1 (.load false 1 (.r 2)), jt 1 (.mov (.v 12)), jt 1 (.call false w8r [(.r 3), (.r 4)]), jt 1 (.not (.r 5)), js 22 (.pick (.r 1) (.r 6) (.c (.bool false)))])
  (.cond (.v 22) (.seq (jr [js 4 (.nilrow wgp false 1), js 5 (.mov (jc 0)), js 6 (.mov (.c (.bool false)))])
  .ret) .skip))
  (.seq (jr [js 23 (.mov (.v 13))])
  (.cond (.v 23) (jr [jn (.mov (.v 9)), jn (.mov (.v 12)), jn (.bslice false wgp false 1 [(.r 1)]), jn (.append wgp false 1 (.r 0) (.r 2)), js 9 (.mov (.r 3))]) .skip))))))
  (jr [jn (.bin false .add (.v 20) (jc 1)), js 20 (.mov (.r 0))])))))))))
  (jr [jn (.bin false .add (.v 16) (jc 1)), js 16 (.mov (.r 0))])))))))
  (.seq (jr [jn (.mov (.v 9)), jn (.call false w9d [(.r 0)]), js 9 (.mov (.r 1))])
  (.seq (.seq (jr [jn (.mov (.v 9)), jn (.len false (.r 0)), jn (.mov (.v 2)), js 24 (.bin false .gtr (.r 1) (.r 2))])
  (.cond (.v 24) (.seq (jr [js 4 (.nilrow wgp false 1), js 5 (.mov (jc 0)), js 6 (.mov (.c (.bool false)))])
  .ret) .skip))
  (.seq (.seq (jr [jn (.mov (.v 9)), jn (.mov (.v 7)), js 25 (.call false w9u [(.r 0), (.r 1)])])
  (.cond (.v 25) (.seq (jr [jn (.mov (.v 7)), jn (.mov (.v 8)), js 4 (.mov (.r 0)), js 5 (.mov (.r 1)), js 6 (.mov (.c (.bool true)))])
  .ret) .skip))
  (jr [jn (.mov (.v 9)), js 7 (.mov (.r 0))])))))))
  (jr [jn (.mov (.v 8)), jn (.bin false .add (.r 0) (jc 1)), js 8 (.mov (.r 1))]))))))),
  [.v 4, .v 5, .v 6]⟩
def wcm : IFun := ⟨[0, 1, 2, 3, 6, 7, 8, 10, 15],
  (.seq (jr [js 3 (.box wgm 2 (.v 0)), js 4 (.nilrow wgp false 1), js 5 (.mov (.c (.bool false)))])
  (.seq (.seq (jr [jn (.load true 2 (.v 3)), jn (.mov (.v 1)), jn (.mov (.v 2)), jn (.call false w9s [(.r 0), (.r 1), (.r 2)]), js 8 (.not (.r 3))])
  (.cond (.v 8) (.seq (jr [js 4 (.nilrow wgp false 1), js 5 (.mov (.c (.bool false)))])
  .ret) .skip))
  (.seq (jr [jn (.load true 2 (.v 3)), jn (.mov (.v 1)), jn (.mov (.v 2)), jn (.call false w9t [(.r 0), (.r 1), (.r 2)]), jn (.mov (.r 3)), jn (.extract (.r 4) 0), jn (.extract (.r 4) 1), jn (.extract (.r 4) 2), js 6 (.mov (.r 5)), jn (.mov (.r 6)), js 7 (.mov (.r 7))])
  (.seq (jr [jn (.mov (.v 6)), jn (.mov (.v 7)), js 4 (.mov (.r 0)), js 5 (.mov (.r 1))])
  .ret)))),
  [.v 4, .v 5]⟩
def wco : IFun := ⟨[0, 1, 2, 3, 4, 8, 9, 10, 11, 13, 29, 30, 31, 32, 33, 38],
  (.seq (jr [js 4 (.box wgm 2 (.v 0)), js 5 (.mov (.c (.bool false))), js 6 (.mov (.c (.bool false)))])
  (.seq (jr [jn (.load true 2 (.v 4)), jn (.mov (.v 2)), jn (.mov (.v 3)), jn (.call false w8k [(.r 0), (.r 1), (.r 2)]), jn (.mov (.r 3)), jn (.extract (.r 4) 0), jn (.extract (.r 4) 1), js 7 (.mov (.r 5)), js 8 (.mov (.r 6))])
  (.seq (.seq (jr [jn (.mov (.v 8)), jn (.not (.r 0)), jn (.mov (.r 1)), jf 2 (.faddr 0 (.v 4)), jf 2 (.load false 1 (.r 3)), jf 2 (.mov (.v 1)), jf 2 (.call false w8r [(.r 4), (.r 5)]), jf 2 (.not (.r 6)), js 10 (.pick (.r 2) (.c (.bool true)) (.r 7))])
  (.cond (.v 10) (.seq (jr [js 5 (.mov (.c (.bool false))), js 6 (.mov (.c (.bool false)))])
  .ret) .skip))
  (.seq (.seq (jr [js 11 (.mov (.v 7)), js 12 (.len false (.v 11)), js 13 (.mov (jc 0))])
  (.block 0 (.loop [false, true, false, false, false, false, false, false, false, false, false, true, true, true, false, false] (.seq (jr [js 14 (.bin false .lss (.v 13) (.v 12))])
  (.seq (.cond (.v 14) .skip (.exit 0))
  (.seq (.block 1 (.seq (jr [jn (.iaddr 1 (.v 11) (.v 13)), jn (.load false 1 (.r 0)), js 9 (.mov (.r 1))])
  (.seq (jr [jn (.mov (.v 1)), jn (.mov (.v 9)), js 15 (.call false w8x [(.r 0), (.r 1)])])
  (.cond (.v 15) (.seq (jr [js 5 (.mov (.c (.bool true))), js 6 (.mov (.c (.bool true)))])
  .ret) .skip))))
  (jr [jn (.bin false .add (.v 13) (jc 1)), js 13 (.mov (.r 0))])))))))
  (.seq (jr [js 5 (.mov (.c (.bool false))), js 6 (.mov (.c (.bool true)))])
  .ret))))),
  [.v 5, .v 6]⟩
def wau : IFun := ⟨[0, 1, 2, 3, 6, 7, 8, 10],
  (.seq (jr [js 3 (.box wgm 2 (.v 0)), js 4 (.nilrow wgp false 1), js 5 (.mov (.c (.bool false)))])
  (.seq (jr [jn (.load true 2 (.v 3)), jn (.mov (.v 1)), jn (.mov (.v 2)), jn (.call false w77 [(.r 0), (.r 1), (.r 2)]), jn (.mov (.r 3)), jn (.extract (.r 4) 0), jn (.extract (.r 4) 1), jn (.extract (.r 4) 2), js 6 (.mov (.r 5)), jn (.mov (.r 6)), js 7 (.mov (.r 7))])
  (.seq (jr [jn (.mov (.v 6)), jn (.mov (.v 7)), js 4 (.mov (.r 0)), js 5 (.mov (.r 1))])
  .ret))),
  [.v 4, .v 5]⟩
def wav : IFun := ⟨[0, 1, 2, 3, 6, 7, 9, 10],
  (.seq (jr [js 3 (.box wgm 2 (.v 0)), js 4 (.mov (jc 0)), js 5 (.mov (.c (.bool false)))])
  (.seq (jr [jn (.load true 2 (.v 3)), jn (.mov (.v 1)), jn (.mov (.v 2)), jn (.call false w77 [(.r 0), (.r 1), (.r 2)]), jn (.mov (.r 3)), jn (.extract (.r 4) 0), jn (.extract (.r 4) 1), jn (.extract (.r 4) 2), jn (.mov (.r 5)), js 6 (.mov (.r 6)), js 7 (.mov (.r 7))])
  (.seq (jr [jn (.mov (.v 6)), jn (.mov (.v 7)), js 4 (.mov (.r 0)), js 5 (.mov (.r 1))])
  .ret))),
  [.v 4, .v 5]⟩
def wcn : IFun := ⟨[0, 1, 2, 3, 6, 7, 9, 10, 15],
  (.seq (jr [js 3 (.box wgm 2 (.v 0)), js 4 (.mov (jc 0)), js 5 (.mov (.c (.bool false)))])
  (.seq (.seq (jr [jn (.load true 2 (.v 3)), jn (.mov (.v 1)), jn (.mov (.v 2)), jn (.call false w9s [(.r 0), (.r 1), (.r 2)]), js 8 (.not (.r 3))])
  (.cond (.v 8) (.seq (jr [js 4 (.mov (jc 0)), js 5 (.mov (.c (.bool false)))])
  .ret) .skip))
  (.seq (jr [jn (.load true 2 (.v 3)), jn (.mov (.v 1)), jn (.mov (.v 2)), jn (.call false w9t [(.r 0), (.r 1), (.r 2)]), jn (.mov (.r 3)), jn (.extract (.r 4) 0), jn (.extract (.r 4) 1), jn (.extract (.r 4) 2), jn (.mov (.r 5)), js 6 (.mov (.r 6)), js 7 (.mov (.r 7))])
  (.seq (jr [jn (.mov (.v 6)), jn (.mov (.v 7)), js 4 (.mov (.r 0)), js 5 (.mov (.r 1))])
  .ret)))),
  [.v 4, .v 5]⟩
def wbp : IFun := ⟨[0, 1, 4, 5, 10, 12, 13, 14, 24],
  (.seq (jr [js 2 (.mov (.c (.bool false)))])
  (.seq (.seq (jr [jn (.mov (.v 0)), jn (.len false (.r 0)), jn (.mov (.v 1)), jn (.len false (.r 2)), js 4 (.bin false .neq (.r 1) (.r 3))])
  (.cond (.v 4) (.seq (jr [js 2 (.mov (.c (.bool false)))])
  .ret) .skip))
  (.seq (.seq (jr [jn (.mov (.v 0)), js 5 (.len false (.r 0)), js 6 (.mov (jc 0))])
  (.block 0 (.loop [true, true, false, false, false, true, true, false, false] (.seq (jr [js 7 (.bin false .lss (.v 6) (.v 5))])
  (.seq (.cond (.v 7) .skip (.exit 0))
  (.seq (.block 1 (.seq (jr [jn (.mov (.v 6)), js 3 (.mov (.r 0))])
  (.seq (.region true [] [jn (.mov (.v 0)), jn (.mov (.v 3)), jn (.iaddr 1 (.r 0) (.r 1)), jn (.load false 1 (.r 2)), jn (.mov (.v 1)), jn (.mov (.v 3)), jn (.iaddr 1 (.r 4) (.r 5)), jn (.load false 1 (.r 6)), js 8 (.bin false .neq (.r 3) (.r 7))])
  (.cond (.v 8) (.seq (jr [js 2 (.mov (.c (.bool false)))])
  .ret) .skip))))
  (jr [jn (.bin false .add (.v 6) (jc 1)), js 6 (.mov (.r 0))])))))))
  (.seq (jr [js 2 (.mov (.c (.bool true)))])
  .ret)))),
  [.v 2]⟩
def wbq : IFun := ⟨[0, 1, 4, 5, 10, 12, 13, 14, 25],
  (.seq (jr [js 2 (.mov (.c (.bool false)))])
  (.seq (.seq (jr [jn (.mov (.v 0)), jn (.len false (.r 0)), jn (.mov (.v 1)), jn (.len false (.r 2)), js 4 (.bin false .neq (.r 1) (.r 3))])
  (.cond (.v 4) (.seq (jr [js 2 (.mov (.c (.bool false)))])
  .ret) .skip))
  (.seq (.seq (jr [jn (.mov (.v 0)), js 5 (.len false (.r 0)), js 6 (.mov (jc 0))])
  (.block 0 (.loop [true, true, false, false, false, true, true, false, false] (.seq (jr [js 7 (.bin false .lss (.v 6) (.v 5))])
  (.seq (.cond (.v 7) .skip (.exit 0))
  (.seq (.block 1 (.seq (jr [jn (.mov (.v 6)), js 3 (.mov (.r 0))])
  (.seq (.region true [] [jn (.mov (.v 0)), jn (.mov (.v 3)), jn (.iaddr 1 (.r 0) (.r 1)), jn (.load false 1 (.r 2)), jn (.mov (.v 1)), jn (.mov (.v 3)), jn (.iaddr 1 (.r 4) (.r 5)), jn (.load false 1 (.r 6)), jn (.call false w7l [(.r 3), (.r 7)]), js 8 (.not (.r 8))])
  (.cond (.v 8) (.seq (jr [js 2 (.mov (.c (.bool false)))])
  .ret) .skip))))
  (jr [jn (.bin false .add (.v 6) (jc 1)), js 6 (.mov (.r 0))])))))))
  (.seq (jr [js 2 (.mov (.c (.bool true)))])
  .ret)))),
  [.v 2]⟩
def wb9 : IFun := ⟨[0, 1, 3],
  (.seq (jr [js 2 (.mov (.c (.bool false)))])
  (.seq (jr [jn (.load false 1 (.v 1)), jn (.mov (.v 0)), jn (.call false w6x [(.r 0), (.r 1)]), jn (.not (.r 2)), js 2 (.mov (.r 3))])
  .ret)),
  [.v 2]⟩
def wb8 : IFun := ⟨[0, 1, 2, 4],
  (.seq (jr [js 2 (.box t_int 1 (.v 0)), js 3 (.mov (.c (.bool false)))])
  (.seq (jr [jn (.mov (.v 1)), jn (.mkfn w75 [(.v 2)]), jn (.call false w7w [(.r 0), (.r 1)]), jn (.not (.r 2)), js 3 (.mov (.r 3))])
  .ret)),
  [.v 3]⟩
def wb4 : IFun := ⟨[0, 1, 4, 5, 19],
  (.seq (jr [js 2 (.nilrow wgp false 1), js 3 (.mov (.c (.bool false)))])
  (.seq (.seq (jr [jn (.mov (.v 0)), jn (.call false w7i [(.r 0), (jc 1), (jc 16)]), jn (.not (.r 1)), jn (.mov (.r 2)), jf 3 (.mov (.v 1)), jf 3 (.len false (.r 4)), jf 3 (.bin false .gtr (.r 5) (jc 400)), jn (.pick (.r 3) (.c (.bool true)) (.r 6)), jn (.mov (.r 7)), jf 8 (.mov (.v 0)), jf 8 (.mov (.v 1)), jf 8 (.call false w74 [(.r 9), (.r 10)]), jf 8 (.not (.r 11)), js 4 (.pick (.r 8) (.c (.bool true)) (.r 12))])
  (.cond (.v 4) (.seq (jr [js 2 (.nilrow wgp false 1), js 3 (.mov (.c (.bool false)))])
  .ret) .skip))
  (.seq (jr [jn (.mov (.v 1)), jn (.call false w7g [(.r 0)]), js 2 (.mov (.r 1)), js 3 (.mov (.c (.bool true)))])
  .ret))),
  [.v 2, .v 3]⟩
def waw : IFun := ⟨[0, 1, 2, 6, 7, 13],
  (.seq (jr [js 3 (.mov (.c (.bool false))), js 4 (.mov (.c (.bool false)))])
  (.seq (.seq (jr [jn (.mov (.v 0)), jn (.mov (.v 1)), jn (.mov (.v 2)), jn (.bslice false wgp false 1 [(.r 1), (.r 2)]), jn (.call false w74 [(.r 0), (.r 3)]), js 5 (.not (.r 4))])
  (.cond (.v 5) (.seq (jr [js 3 (.mov (.c (.bool false))), js 4 (.mov (.c (.bool false)))])
  .ret) .skip))
  (.seq (jr [jn (.mov (.v 1)), jn (.mov (.v 2)), jn (.call false w78 [(.r 0), (.r 1)]), js 3 (.mov (.r 2)), js 4 (.mov (.c (.bool true)))])
  .ret))),
  [.v 3, .v 4]⟩
def wbi : IFun := ⟨[0, 1, 3],
  (.seq (jr [js 2 (.mov (.c (.bool false)))])
  (.seq (jr [jn (.load false 1 (.v 1)), jn (.mov (.v 0)), jn (.iaddr 1 (.r 0) (.r 1)), jn (.load false 1 (.r 2)), jn (.bin false .eql (.r 3) (jc 0)), js 2 (.mov (.r 4))])
  .ret)),
  [.v 2]⟩
def wc3 : IFun := ⟨[0, 1, 4, 5, 7, 8, 9, 16],
  (.seq (jr [js 2 (.mov (jc 0))])
  (.seq (.seq (jr [jn (.mov (.v 0)), js 4 (.len false (.r 0)), js 5 (.mov (jc 0))])
  (.block 0 (.loop [true, true, false, false, true, true, false, false] (.seq (jr [js 6 (.bin false .lss (.v 5) (.v 4))])
  (.seq (.cond (.v 6) .skip (.exit 0))
  (.seq (.block 1 (.seq (jr [jn (.mov (.v 5)), js 3 (.mov (.r 0))])
  (.seq (jr [jn (.mov (.v 1)), jn (.mov (.v 0)), jn (.mov (.v 3)), jn (.iaddr 1 (.r 1) (.r 2)), jn (.load false 1 (.r 3)), js 7 (.callv false (.r 0) [(.r 4)])])
  (.cond (.v 7) (.seq (jr [jn (.mov (.v 3)), js 2 (.mov (.r 0))])
  .ret) .skip))))
  (jr [jn (.bin false .add (.v 5) (jc 1)), js 5 (.mov (.r 0))])))))))
  (.seq (jr [js 2 (.mov (jc (-1)))])
  .ret))),
  [.v 2]⟩
def wbx : IFun := ⟨[0, 1, 4],
  (.seq (jr [js 2 (.mov (.c (.bool false)))])
  (.seq (jr [jn (.mov (.v 0)), jn (.mov (.v 1)), jn (.call false w81 [(.r 0), (.r 1)]), jn (.bin false .geq (.r 2) (jc 0)), js 2 (.mov (.r 3))])
  .ret)),
  [.v 2]⟩
def wbh : IFun := ⟨[0, 1, 2, 3, 4],
  (.seq (jr [js 2 (.box wgo 3 (.v 0)), js 3 (.box wgp 1 (.v 1)), js 4 (.mov (.c (.bool false)))])
  (.seq (jr [jn (.faddr 0 (.v 2)), jn (.load false 1 (.r 0)), jn (.mkfn w7e [(.v 3)]), jn (.call false w7v [(.r 1), (.r 2)]), jn (.not (.r 3)), js 4 (.mov (.r 4))])
  .ret)),
  [.v 4]⟩
def wbd : IFun := ⟨[0, 1, 2, 4, 5, 6, 7, 9, 10, 11, 12, 18],
  (.seq (jr [js 2 (.box wgm 2 (.v 0)), js 3 (.nilrow t_int true 1)])
  (.seq (jr [js 4 (.nilrow t_int true 1)])
  (.seq (.seq (jr [jn (.faddr 1 (.v 2)), js 7 (.load false 1 (.r 0)), js 8 (.len false (.v 7)), js 9 (.mov (jc 0))])
  (.block 0 (.loop [false, true, false, false, true, false, false, true, true, true, false, false] (.seq (jr [js 10 (.bin false .lss (.v 9) (.v 8))])
  (.seq (.cond (.v 10) .skip (.exit 0))
  (.seq (.block 1 (.seq (jr [jn (.mov (.v 9)), jn (.iaddr 3 (.v 7) (.v 9)), jn (.load true 3 (.r 1)), js 6 (.alloc wgo [(.nil true 1), (.nil true 1), (.nil true 1)]), js 5 (.mov (.r 0)), jn (.store 3 (.v 6) (.r 2))])
  (.seq (jr [jn (.load true 3 (.v 6)), jn (.mov (.v 1)), js 11 (.call false w7d [(.r 0), (.r 1)])])
  (.cond (.v 11) (jr [jn (.mov (.v 4)), jn (.mov (.v 5)), jn (.bslice false t_int true 1 [(.r 1)]), jn (.append t_int true 1 (.r 0) (.r 2)), js 4 (.mov (.r 3))]) .skip))))
  (jr [jn (.bin false .add (.v 9) (jc 1)), js 9 (.mov (.r 0))])))))))
  (.seq (jr [jn (.mov (.v 4)), js 3 (.mov (.r 0))])
  .ret)))),
  [.v 3]⟩
def wbf : IFun := ⟨[0, 1, 2, 4, 5, 7, 9, 11, 15, 16, 17, 18, 29, 30, 31, 32, 40, 41, 42, 43],
  (.seq (jr [js 2 (.box wgo 3 (.v 0)), js 3 (.nilrow t_int true 1)])
  (.seq (jr [jn (.mov (.v 1)), jn (.call false w7q [(.r 0)]), js 4 (.mov (.r 1))])
  (.seq (.seq (jr [jn (.faddr 0 (.v 2)), js 8 (.load false 1 (.r 0)), js 9 (.len false (.v 8)), js 10 (.mov (jc 0))])
  (.block 0 (.loop [false, false, true, false, true, false, false, false, true, true, true, false, false, false, false, false, false, false, false, false] (.seq (jr [js 11 (.bin false .lss (.v 10) (.v 9))])
  (.seq (.cond (.v 11) .skip (.exit 0))
  (.seq (.block 1 (.seq (jr [jn (.iaddr 1 (.v 8) (.v 10)), jn (.load false 1 (.r 0)), js 5 (.mov (.r 1))])
  (jr [jn (.mov (.v 4)), jn (.mov (.v 5)), jn (.iaddr 1 (.r 0) (.r 1)), jn (.load false 1 (.r 2)), jn (.bin false .sub (.r 3) (jc 1)), jn (.iaddr 1 (.r 0) (.r 1)), jn (.store 1 (.r 5) (.r 4))])))
  (jr [jn (.bin false .add (.v 10) (jc 1)), js 10 (.mov (.r 0))])))))))
  (.seq (.seq (jr [jn (.faddr 2 (.v 2)), js 12 (.load false 1 (.r 0)), js 13 (.len false (.v 12)), js 14 (.mov (jc 0))])
  (.block 2 (.loop [false, false, true, false, true, false, false, false, false, false, false, false, true, true, true, false, false, false, false, false] (.seq (jr [js 15 (.bin false .lss (.v 14) (.v 13))])
  (.seq (.cond (.v 15) .skip (.exit 2))
  (.seq (.block 3 (.seq (jr [jn (.iaddr 1 (.v 12) (.v 14)), jn (.load false 1 (.r 0)), js 6 (.mov (.r 1))])
  (jr [jn (.mov (.v 4)), jn (.mov (.v 6)), jn (.iaddr 1 (.r 0) (.r 1)), jn (.store 1 (.r 2) (jc 0))])))
  (jr [jn (.bin false .add (.v 14) (jc 1)), js 14 (.mov (.r 0))])))))))
  (.seq (.seq (jr [jn (.faddr 1 (.v 2)), js 16 (.load false 1 (.r 0)), js 17 (.len false (.v 16)), js 18 (.mov (jc 0))])
  (.block 4 (.loop [false, false, false, false, true, false, false, false, false, false, false, false, false, false, false, false, true, true, true, false] (.seq (jr [js 19 (.bin false .lss (.v 18) (.v 17))])
  (.seq (.cond (.v 19) .skip (.exit 4))
  (.seq (.block 5 (.seq (jr [jn (.iaddr 1 (.v 16) (.v 18)), jn (.load false 1 (.r 0)), js 7 (.mov (.r 1))])
  (jr [jn (.mov (.v 4)), jn (.mov (.v 7)), jn (.iaddr 1 (.r 0) (.r 1)), jn (.load false 1 (.r 2)), jn (.bin false .add (.r 3) (jc 1)), jn (.iaddr 1 (.r 0) (.r 1)), jn (.store 1 (.r 5) (.r 4))])))
  (jr [jn (.bin false .add (.v 18) (jc 1)), js 18 (.mov (.r 0))])))))))
  (.seq (jr [jn (.mov (.v 4)), js 3 (.mov (.r 0))])
  .ret)))))),
  [.v 3]⟩
def wb6 : IFun := ⟨[0, 1, 3],
  (.seq (jr [js 2 (.mov (.c (.bool false)))])
  (.seq (jr [jn (.mov (.v 0)), jn (.load false 1 (.v 1)), jn (.call false w7z [(.r 0), (.r 1)]), js 2 (.mov (.r 2))])
  .ret)),
  [.v 2]⟩
def wb5 : IFun := ⟨[0, 1, 2, 3, 4],
  (.seq (jr [js 2 (.box wgn 2 (.v 0)), js 3 (.box wgp 1 (.v 1)), js 4 (.mov (jc 0))])
  (.seq (jr [jn (.faddr 0 (.v 2)), jn (.load false 1 (.r 0)), jn (.mkfn w72 [(.v 3)]), jn (.call false w82 [(.r 1), (.r 2)]), js 4 (.mov (.r 3))])
  .ret)),
  [.v 4]⟩
def wbe : IFun := ⟨[0, 1, 2, 3, 6, 7, 8, 9, 11, 12, 13, 22, 31, 32, 33, 34, 50, 56, 61],
  (.seq (jr [js 3 (.box wgm 2 (.v 0)), js 4 (.alloc wgn [(.nil false 1), (.nil true 3)]), js 5 (.mov (jc 0))])
  (.seq (jr [jn (.mov (.v 1)), jn (.call false w7q [(.r 0)]), jn (.bslice false wgp false 1 [(.r 1)]), jn (.build [(.nil false 1), (.nil true 3)] [(0, 1, (.r 2))]), js 6 (.alloc wgn [(.nil false 1), (.nil true 3)]), jn (.store 2 (.v 6) (.r 3))])
  (.seq (.seq (jr [js 7 (.mov (jc 0))])
  (.block 0 (.loop [false, false, true, true, true, false, true, true, false, false, false, false, false, false, false, false, false, false, false] (.seq (.seq (jr [jn (.mov (.v 7)), jn (.faddr 0 (.v 6)), jn (.load false 1 (.r 1)), jn (.len false (.r 2)), js 11 (.bin false .lss (.r 0) (.r 3))])
  (.cond (.v 11) .skip (.exit 0)))
  (.seq (.block 1 (.seq (.region true [] [jn (.load true 2 (.v 3)), jn (.faddr 0 (.v 6)), jn (.load false 1 (.r 1)), jn (.mov (.v 7)), jn (.iaddr 1 (.r 2) (.r 3)), jn (.load false 1 (.r 4)), js 14 (.mov (jc 0)), js 12 (.call false w79 [(.r 0), (.r 5)]), js 13 (.len false (.v 12))])
  (.block 2 (.loop [false, false, true, true, true, false, true, true, false, false, false, false, true, true, true, false, false, false, false] (.seq (jr [js 15 (.bin false .lss (.v 14) (.v 13))])
  (.seq (.cond (.v 15) .skip (.exit 2))
  (.seq (.block 3 (.seq (jr [jn (.iaddr 1 (.v 12) (.v 14)), jn (.load false 1 (.r 0)), js 8 (.mov (.r 1))])
  (.seq (.region true [] [jn (.faddr 1 (.v 3)), jn (.load false 1 (.r 0)), jn (.mov (.v 8)), jn (.iaddr 3 (.r 1) (.r 2)), jn (.load true 3 (.r 3)), jn (.faddr 0 (.v 6)), jn (.load false 1 (.r 5)), jn (.mov (.v 7)), jn (.iaddr 1 (.r 6) (.r 7)), jn (.load false 1 (.r 8)), jn (.call false w7b [(.r 4), (.r 9)]), js 9 (.mov (.r 10))])
  (.seq (.seq (jr [jn (.mov (.v 9)), jn (.call false w73 [(.r 0), (jc 0), (jc 50)]), js 16 (.not (.r 1))])
  (.cond (.v 16) (.seq (jr [jn (.build [(.nil false 1), (.nil true 3)] []), jn (.store 2 (.v 4) (.r 0)), js 5 (.mov (jc 3))])
  .ret) .skip))
  (.seq (jr [jn (.load true 2 (.v 6)), jn (.mov (.v 9)), jn (.call false w71 [(.r 0), (.r 1)]), js 10 (.mov (.r 2))])
  (.seq (.seq (jr [jn (.mov (.v 10)), js 17 (.bin false .lss (.r 0) (jc 0))])
  (.cond (.v 17) (.seq (.seq (jr [jn (.faddr 0 (.v 6)), jn (.load false 1 (.r 0)), jn (.len false (.r 1)), jn (.mov (.v 2)), js 18 (.bin false .geq (.r 2) (.r 3))])
  (.cond (.v 18) (.seq (jr [jn (.build [(.nil false 1), (.nil true 3)] []), jn (.store 2 (.v 4) (.r 0)), js 5 (.mov (jc 2))])
  .ret) .skip))
  (.seq (jr [jn (.faddr 0 (.v 6)), jn (.load false 1 (.r 0)), jn (.len false (.r 1)), js 10 (.mov (.r 2))])
  (jr [jn (.faddr 0 (.v 6)), jn (.load false 1 (.r 0)), jn (.mov (.v 9)), jn (.bslice false wgp false 1 [(.r 2)]), jn (.append wgp false 1 (.r 1) (.r 3)), jn (.faddr 0 (.v 6)), jn (.store 1 (.r 5) (.r 4))]))) .skip))
  (jr [jn (.faddr 1 (.v 6)), jn (.load false 1 (.r 0)), jn (.mov (.v 7)), jn (.mov (.v 8)), jn (.mov (.v 10)), jn (.build [(.int .i64 0), (.int .i64 0), (.int .i64 0)] [(0, 1, (.r 2)), (1, 1, (.r 3)), (2, 1, (.r 4))]), jn (.bslice false wgk true 3 [(.r 5)]), jn (.append wgk true 3 (.r 1) (.r 6)), jn (.faddr 1 (.v 6)), jn (.store 1 (.r 8) (.r 7))])))))))
  (jr [jn (.bin false .add (.v 14) (jc 1)), js 14 (.mov (.r 0))]))))))))
  (jr [jn (.mov (.v 7)), jn (.bin false .add (.r 0) (jc 1)), js 7 (.mov (.r 1))]))))))
  (.seq (jr [jn (.load true 2 (.v 6)), jn (.store 2 (.v 4) (.r 0)), js 5 (.mov (jc 1))])
  .ret)))),
  [.cell true 2 4, .v 5]⟩
def wb0 : IFun := ⟨[0, 1, 2, 3, 6, 7, 8, 9, 10, 19],
  (.seq (jr [js 3 (.box wgm 2 (.v 0)), js 4 (.alloc wgn [(.nil false 1), (.nil true 3)]), js 5 (.mov (jc 0)), js 6 (.mov (.c (.bool false)))])
  (.seq (.seq (jr [jn (.load true 2 (.v 3)), jn (.mov (.v 1)), jn (.call false w7f [(.r 0), (.r 1)]), jn (.not (.r 2)), jn (.mov (.r 3)), jf 4 (.mov (.v 2)), jf 4 (.call false w7i [(.r 5), (jc 1), (jc 400)]), jf 4 (.not (.r 6)), js 9 (.pick (.r 4) (.c (.bool true)) (.r 7))])
  (.cond (.v 9) (.seq (jr [jn (.build [(.nil false 1), (.nil true 3)] []), jn (.store 2 (.v 4) (.r 0)), js 5 (.mov (jc 0)), js 6 (.mov (.c (.bool false)))])
  .ret) .skip))
  (.seq (jr [jn (.load true 2 (.v 3)), jn (.mov (.v 1)), jn (.mov (.v 2)), jn (.call false w7a [(.r 0), (.r 1), (.r 2)]), jn (.mov (.r 3)), jn (.extract (.r 4) 0), jn (.extract (.r 4) 1), js 7 (.alloc wgn [(.nil false 1), (.nil true 3)]), jn (.store 2 (.v 7) (.r 5)), js 8 (.mov (.r 6))])
  (.seq (jr [jn (.load true 2 (.v 7)), jn (.mov (.v 8)), jn (.store 2 (.v 4) (.r 0)), js 5 (.mov (.r 1)), js 6 (.mov (.c (.bool true)))])
  .ret)))),
  [.cell true 2 4, .v 5, .v 6]⟩
def wbn : IFun := ⟨[0, 1, 4, 5, 6, 7, 8, 9, 10, 11, 12, 13, 14, 15, 16, 17, 18, 19, 20, 21, 22, 23, 25, 26, 27, 28, 29, 30, 31, 33, 34, 35, 38, 123, 124, 132, 133, 134, 135, 165, 180, 182, 183, 184, 185, 197],
  (.seq (jr [js 2 (.mov (.c (.bool false)))])
  (.seq (.seq (jr [jn (.mov (.v 0)), jn (.mov (.v 1)), js 32 (.call false w7k [(.r 0), (.r 1)])])
  (.cond (.v 32) (.seq (jr [js 2 (.mov (.c (.bool true)))])
  .ret) .skip))
  (.seq (jr [jn (.mov (.v 0)), jn (.call false w8n [(.r 0)]), jn (.mov (.r 1)), jn (.extract (.r 2) 0), jn (.extract (.r 2) 1), jn (.extract (.r 2) 2), jn (.extract (.r 2) 3), js 3 (.alloc wgm [(.int .i64 0), (.nil false 3)]), jn (.store 2 (.v 3) (.r 3)), js 4 (.mov (.r 4)), js 5 (.mov (.r 5)), js 6 (.mov (.r 6))])
  (.seq (jr [jn (.load true 2 (.v 3)), jn (.mov (.v 4)), jn (.mov (.v 5)), jn (.mov (.v 6)), jn (.call false w6u [(.r 0), (.r 1), (.r 2), (.r 3)]), jn (.mov (.r 4)), jn (.extract (.r 5) 0), jn (.extract (.r 5) 1), js 7 (.mov (.r 6)), js 8 (.mov (.r 7))])
  (.seq (jr [jn (.load true 2 (.v 3)), jn (.mov (.v 4)), jn (.mov (.v 5)), jn (.mov (.v 6)), jn (.call false w8m [(.r 0), (.r 1), (.r 2), (.r 3)]), jn (.mov (.r 4)), jn (.extract (.r 5) 0), jn (.extract (.r 5) 1), js 9 (.mov (.r 6)), js 10 (.mov (.r 7))])
  (.seq (jr [jn (.load true 2 (.v 3)), jn (.mov (.v 5)), jn (.mov (.v 6)), jn (.call false w6r [(.r 0), (.r 1), (.r 2)]), jn (.mov (.r 3)), jn (.extract (.r 4) 0), jn (.extract (.r 4) 1), js 11 (.mov (.r 5)), js 12 (.mov (.r 6))])
  (.seq (jr [jn (.load true 2 (.v 3)), jn (.mov (.v 5)), jn (.mov (.v 6)), jn (.call false w8k [(.r 0), (.r 1), (.r 2)]), jn (.mov (.r 3)), jn (.extract (.r 4) 0), jn (.extract (.r 4) 1), js 13 (.mov (.r 5)), js 14 (.mov (.r 6))])
  (.seq (jr [jn (.load true 2 (.v 3)), jn (.mov (.v 5)), jn (.mov (.v 6)), jn (.call false w6s [(.r 0), (.r 1), (.r 2)]), jn (.mov (.r 3)), jn (.extract (.r 4) 0), jn (.extract (.r 4) 1), js 15 (.mov (.r 5)), js 16 (.mov (.r 6))])
  (.seq (jr [jn (.load true 2 (.v 3)), jn (.mov (.v 5)), jn (.mov (.v 6)), jn (.call false w8l [(.r 0), (.r 1), (.r 2)]), jn (.mov (.r 3)), jn (.extract (.r 4) 0), jn (.extract (.r 4) 1), js 17 (.mov (.r 5)), js 18 (.mov (.r 6))])
  (.seq (.seq (jr [jn (.mov (.v 8)), jn (.mov (.v 10)), jn (.bin true .neq (.r 0) (.r 1)), jn (.mov (.r 2)), jf 3 (.mov (.v 7)), jf 3 (.mov (.v 9)), jf 3 (.bin true .neq (.r 4) (.r 5)), jn (.pick (.r 3) (.c (.bool true)) (.r 6)), jn (.mov (.r 7)), jf 8 (.mov (.v 12)), jf 8 (.mov (.v 14)), jf 8 (.bin true .neq (.r 9) (.r 10)), jn (.pick (.r 8) (.c (.bool true)) (.r 11)), jn (.mov (.r 12)), jf 13 (.mov (.v 11)), jf 13 (.mov (.v 13)), jf 13 (.call false w7m [(.r 14), (.r 15)]), jf 13 (.not (.r 16)), jn (.pick (.r 13) (.c (.bool true)) (.r 17)), jn (.mov (.r 18)), jf 19 (.mov (.v 16)), jf 19 (.mov (.v 18)), jf 19 (.bin true .neq (.r 20) (.r 21)), jn (.pick (.r 19) (.c (.bool true)) (.r 22)), jn (.mov (.r 23)), jf 24 (.mov (.v 15)), jf 24 (.mov (.v 17)), jf 24 (.bin false .neq (.r 25) (.r 26)), jn (.pick (.r 24) (.c (.bool true)) (.r 27)), jn (.mov (.r 28)), jf 29 (.mov (.v 12)), jf 29 (.mov (.v 16)), jf 29 (.bin true .neq (.r 30) (.r 31)), js 33 (.pick (.r 29) (.c (.bool true)) (.r 32))])
  (.cond (.v 33) (.seq (jr [js 2 (.mov (.c (.bool false)))])
  .ret) .skip))
  (.seq (.seq (jr [js 34 (.mov (.v 12))])
  (.cond (.v 34) (.seq (jr [jn (.faddr 0 (.v 3)), jn (.load false 1 (.r 0)), jn (.mov (.v 11)), jn (.call false w70 [(.r 1), (.r 2)]), jn (.mov (.r 3)), jn (.extract (.r 4) 0), jn (.extract (.r 4) 1), js 19 (.mov (.r 5)), js 20 (.mov (.r 6))])
  (.seq (jr [js 21 (.mov (.c (.bool false)))])
  (.seq (.seq (jr [js 35 (.mov (.v 11)), js 36 (.len false (.v 35)), js 37 (.mov (jc 0))])
  (.block 0 (.loop [false, false, false, true, true, true, false, true, true, false, false, true, false, false, false, false, false, false, false, true, true, true, false, false, false, false, false, false, false, false, false, false, false, false, false, true, true, true, false, false, false, false, false, false, false, false] (.seq (jr [js 38 (.bin false .lss (.v 37) (.v 36))])
  (.seq (.cond (.v 38) .skip (.exit 0))
  (.seq (.block 1 (.seq (jr [jn (.iaddr 1 (.v 35) (.v 37)), jn (.load false 1 (.r 0)), js 22 (.mov (.r 1))])
  (.seq (jr [jn (.faddr 0 (.v 3)), jn (.load false 1 (.r 0)), jn (.mov (.v 5)), jn (.mov (.v 22)), jn (.call false w6t [(.r 1), (.r 2), (.r 3)]), jn (.mov (.r 4)), jn (.extract (.r 5) 0), jn (.extract (.r 5) 1), js 23 (.mov (.r 6)), js 24 (.mov (.r 7))])
  (jr [jn (.mov (.v 21)), jn (.mov (.r 0)), jf 1 (.mov (.v 24)), jf 1 (.mov (.r 2)), jt 3 (.mov (.v 23)), jf 1 (.pick (.r 3) (.r 4) (.c (.bool false))), jn (.pick (.r 1) (.c (.bool true)) (.r 5)), js 21 (.mov (.r 6))]))))
  (jr [jn (.bin false .add (.v 37) (jc 1)), js 37 (.mov (.r 0))])))))))
  (.seq (jr [jn (.mov (.v 20)), jn (.not (.r 0)), jn (.mov (.r 1)), jf 2 (.mov (.v 19)), jf 2 (.mov (.v 11)), jf 2 (.call false w7m [(.r 3), (.r 4)]), jf 2 (.not (.r 5)), jn (.pick (.r 2) (.c (.bool true)) (.r 6)), jn (.mov (.r 7)), jf 8 (.mov (.v 21)), jf 8 (.not (.r 9)), js 39 (.pick (.r 8) (.c (.bool true)) (.r 10))])
  (.cond (.v 39) (.seq (jr [js 2 (.mov (.c (.bool false)))])
  .ret) .skip))))) .skip))
  (.seq (jr [jn (.load true 2 (.v 3)), jn (.mov (.v 4)), jn (.call false w6w [(.r 0), (.r 1), (jc 400)]), jn (.mov (.r 2)), jn (.extract (.r 3) 0), jn (.extract (.r 3) 1), jn (.extract (.r 3) 2), js 25 (.alloc wgn [(.nil false 1), (.nil true 3)]), jn (.store 2 (.v 25) (.r 4)), js 26 (.mov (.r 5)), js 27 (.mov (.r 6))])
  (.seq (.seq (jr [jn (.mov (.v 8)), jn (.mov (.r 0)), jt 1 (.mov (.v 27)), jn (.pick (.r 1) (.r 2) (.c (.bool false))), jn (.mov (.r 3)), jt 4 (.mov (.v 26)), jt 4 (.bin false .eql (.r 5) (jc 1)), js 40 (.pick (.r 4) (.r 6) (.c (.bool false)))])
  (.cond (.v 40) (.seq (jr [js 28 (.mov (.c (.bool false)))])
  (.seq (.seq (jr [jn (.faddr 0 (.v 25)), js 41 (.load false 1 (.r 0)), js 42 (.len false (.v 41)), js 43 (.mov (jc 0))])
  (.block 2 (.loop [false, false, false, true, false, true, false, true, false, false, false, false, false, false, false, false, false, false, false, false, false, false, false, false, false, false, false, false, true, false, false, false, false, false, false, false, false, false, false, false, false, true, true, true, false, false] (.seq (jr [js 44 (.bin false .lss (.v 43) (.v 42))])
  (.seq (.cond (.v 44) .skip (.exit 2))
  (.seq (.block 3 (.seq (jr [jn (.iaddr 1 (.v 41) (.v 43)), jn (.load false 1 (.r 0)), js 29 (.mov (.r 1))])
  (.seq (jr [jn (.faddr 0 (.v 3)), jn (.load false 1 (.r 0)), jn (.mov (.v 29)), jn (.mov (.v 5)), jn (.call false w6t [(.r 1), (.r 2), (.r 3)]), jn (.mov (.r 4)), jn (.extract (.r 5) 0), jn (.extract (.r 5) 1), js 30 (.mov (.r 6)), js 31 (.mov (.r 7))])
  (.seq (.seq (jr [jn (.mov (.v 31)), js 45 (.not (.r 0))])
  (.cond (.v 45) (.seq (jr [js 2 (.mov (.c (.bool false)))])
  .ret) .skip))
  (jr [jn (.mov (.v 28)), jn (.mov (.r 0)), jf 1 (.mov (.v 30)), jn (.pick (.r 1) (.c (.bool true)) (.r 2)), js 28 (.mov (.r 3))])))))
  (jr [jn (.bin false .add (.v 43) (jc 1)), js 43 (.mov (.r 0))])))))))
  (.seq (jr [jn (.mov (.v 28)), jn (.mov (.v 7)), jn (.bin true .eql (.r 0) (.r 1)), js 2 (.mov (.r 2))])
  .ret))) .skip))
  (.seq (jr [js 2 (.mov (.c (.bool true)))])
  .ret)))))))))))))),
  [.v 2]⟩
def tbl : List (FuncId × IFun) := [(w7k, wbo), (w95, wd7), (w97, wd9), (w96, wd8), (w9h, wdj), (w91, wd3), (w98, wda), (w8y, wd0), (w90, wd2), (w9b, wdd), (w9g, wdi), (w9i, wdk), (w8s, wcu), (w9q, wds), (w9o, wdq), (w9p, wdr), (w8t, wcv), (w9a, wdc), (w8q, wcs), (w9r, wdt), (w8u, wcw), (w94, wd6), (w9e, wdg), (w92, wd4), (w99, wdb), (w9f, wdh), (w8v, wcx), (w8r, wct), (w9n, wdp), (w9k, wdm), (w9l, wdn), (w8o, wcq), (w9m, wdo), (w8p, wcr), (w93, wd5), (w8z, wd1), (w8n, wcp), (w7i, wbm), (w7c, wbg), (w73, wb7), (w76, wba), (w6z, wb3), (w80, wc2), (w7u, wbw), (w6y, wb2), (w6x, wb1), (w7f, wbj), (w83, wc5), (w7x, wbz), (w7h, wbl), (w7o, wbs), (w7p, wbt), (w7n, wbr), (w88, wca), (w8i, wck), (w87, wc9), (w8b, wcd), (w8j, wcl), (w85, wc7), (w8c, wce), (w8a, wcc), (w89, wcb), (w86, wc8), (w8h, wcj), (w8d, wcf), (w8f, wch), (w8e, wcg), (w8g, wci), (w84, wc6), (w6q, wat), (w6p, war), (w7t, wbv), (w7s, wbu), (w7z, wc1), (w78, wbc), (w7g, wbk), (w7y, wc0), (w77, wbb), (w6v, waz), (w82, wc4), (w7w, wby), (w6u, wax), (w9s, wdu), (w9v, wdx), (w8x, wcz), (w9j, wdl), (w8w, wcy), (w9c, wde), (w9d, wdf), (w9u, wdw), (w9t, wdv), (w8k, wcm), (w8m, wco), (w6r, wau), (w6s, wav), (w8l, wcn), (w7l, wbp), (w7m, wbq), (w75, wb9), (w74, wb8), (w70, wb4), (w6t, waw), (w7e, wbi), (w81, wc3), (w7v, wbx), (w7d, wbh), (w79, wbd), (w7b, wbf), (w72, wb6), (w71, wb5), (w7a, wbe), (w6w, wb0), (w7j, wbn)]
def F (f : FuncId) : Option IFun := (tbl.find? fun p => p.1 == f).map (·.2)
def exts : List (FuncId × (List PV → Option PV)) := [(w7q, w6m), (w7r, w6n)]
def ext (f : FuncId) : Option (List PV → Option PV) := (exts.find? fun p => p.1 == f).map (·.2)
noncomputable def C : Orc := lim F ext
@[go_sem] abbrev Wr (i : IFun) (a : List PV) (M : List Blk) (r : PV × List Blk) : Prop := W C M.length i.body ⟨start i a, M⟩ (Lv M.length i.results r)
@[go_sem] abbrev We (i : IFun) (a : List PV) (M : List Blk) (P : PV × List Blk → Prop) : Prop := W C M.length i.body ⟨start i a, M⟩ (Le' M.length i.results P)
variable {a : List PV} {M : List Blk} {r : PV × List Blk} {P : PV × List Blk → Prop}
theorem w0v (h : Wr wbo a M r) : C w7k a M = some r := z8c rfl rfl h
theorem w2w (h : We wd7 a M P) : Lw (C w95 a M) P := z89 rfl rfl h
theorem w2y (h : We wd9 a M P) : Lw (C w97 a M) P := z89 rfl rfl h
theorem w2x (h : We wd8 a M P) : Lw (C w96 a M) P := z89 rfl rfl h
theorem w33 (h : We wdj a M P) : Lw (C w9h a M) P := z89 rfl rfl h
theorem w1z (h : Wr wdj a M r) : C w9h a M = some r := z8c rfl rfl h
theorem w2s (h : We wd3 a M P) : Lw (C w91 a M) P := z89 rfl rfl h
theorem w2z (h : We wda a M P) : Lw (C w98 a M) P := z89 rfl rfl h
theorem w2p (h : We wd0 a M P) : Lw (C w8y a M) P := z89 rfl rfl h
theorem w2r (h : We wd2 a M P) : Lw (C w90 a M) P := z89 rfl rfl h
theorem w1v (h : Wr wdd a M r) : C w9b a M = some r := z8c rfl rfl h
theorem w1y (h : Wr wdi a M r) : C w9g a M = some r := z8c rfl rfl h
theorem w20 (h : Wr wdk a M r) : C w9i a M = some r := z8c rfl rfl h
theorem w1o (h : Wr wcu a M r) : C w8s a M = some r := z8c rfl rfl h
theorem w28 (h : Wr wds a M r) : C w9q a M = some r := z8c rfl rfl h
theorem w26 (h : Wr wdq a M r) : C w9o a M = some r := z8c rfl rfl h
theorem w27 (h : Wr wdr a M r) : C w9p a M = some r := z8c rfl rfl h
theorem w1p (h : Wr wcv a M r) : C w8t a M = some r := z8c rfl rfl h
theorem w1u (h : Wr wdc a M r) : C w9a a M = some r := z8c rfl rfl h
theorem w1m (h : Wr wcs a M r) : C w8q a M = some r := z8c rfl rfl h
theorem w29 (h : Wr wdt a M r) : C w9r a M = some r := z8c rfl rfl h
theorem w1q (h : Wr wcw a M r) : C w8u a M = some r := z8c rfl rfl h
theorem w2v (h : We wd6 a M P) : Lw (C w94 a M) P := z89 rfl rfl h
theorem w1w (h : Wr wdg a M r) : C w9e a M = some r := z8c rfl rfl h
theorem w2t (h : We wd4 a M P) : Lw (C w92 a M) P := z89 rfl rfl h
theorem w30 (h : We wdb a M P) : Lw (C w99 a M) P := z89 rfl rfl h
theorem w1x (h : Wr wdh a M r) : C w9f a M = some r := z8c rfl rfl h
theorem w1r (h : Wr wcx a M r) : C w8v a M = some r := z8c rfl rfl h
theorem w1n (h : Wr wct a M r) : C w8r a M = some r := z8c rfl rfl h
theorem w25 (h : Wr wdp a M r) : C w9n a M = some r := z8c rfl rfl h
theorem w22 (h : Wr wdm a M r) : C w9k a M = some r := z8c rfl rfl h
theorem w23 (h : Wr wdn a M r) : C w9l a M = some r := z8c rfl rfl h
theorem w1k (h : Wr wcq a M r) : C w8o a M = some r := z8c rfl rfl h
theorem w24 (h : Wr wdo a M r) : C w9m a M = some r := z8c rfl rfl h
theorem w1l (h : Wr wcr a M r) : C w8p a M = some r := z8c rfl rfl h
theorem w2u (h : We wd5 a M P) : Lw (C w93 a M) P := z89 rfl rfl h
theorem w2q (h : We wd1 a M P) : Lw (C w8z a M) P := z89 rfl rfl h
theorem w2o (h : We wcp a M P) : Lw (C w8n a M) P := z89 rfl rfl h
theorem w0t (h : Wr wbm a M r) : C w7i a M = some r := z8c rfl rfl h
theorem w0n (h : Wr wbg a M r) : C w7c a M = some r := z8c rfl rfl h
theorem w0e (h : Wr wb7 a M r) : C w73 a M = some r := z8c rfl rfl h
theorem w0h (h : Wr wba a M r) : C w76 a M = some r := z8c rfl rfl h
theorem w0a (h : Wr wb3 a M r) : C w6z a M = some r := z8c rfl rfl h
theorem w17 (h : Wr wc2 a M r) : C w80 a M = some r := z8c rfl rfl h
theorem w11 (h : Wr wbw a M r) : C w7u a M = some r := z8c rfl rfl h
theorem w09 (h : Wr wb2 a M r) : C w6y a M = some r := z8c rfl rfl h
theorem w08 (h : Wr wb1 a M r) : C w6x a M = some r := z8c rfl rfl h
theorem w0q (h : Wr wbj a M r) : C w7f a M = some r := z8c rfl rfl h
theorem w1a (h : Wr wc5 a M r) : C w83 a M = some r := z8c rfl rfl h
theorem w14 (h : Wr wbz a M r) : C w7x a M = some r := z8c rfl rfl h
theorem w0s (h : Wr wbl a M r) : C w7h a M = some r := z8c rfl rfl h
theorem w0z (h : Wr wbt a M r) : C w7p a M = some r := z8c rfl rfl h
theorem w0y (h : Wr wbr a M r) : C w7n a M = some r := z8c rfl rfl h
theorem w1c (h : Wr wca a M r) : C w88 a M = some r := z8c rfl rfl h
theorem w1h (h : Wr wck a M r) : C w8i a M = some r := z8c rfl rfl h
theorem w1b (h : Wr wc9 a M r) : C w87 a M = some r := z8c rfl rfl h
theorem w1d (h : Wr wcd a M r) : C w8b a M = some r := z8c rfl rfl h
theorem w2m (h : We wcl a M P) : Lw (C w8j a M) P := z89 rfl rfl h
theorem w2f (h : We wc7 a M P) : Lw (C w85 a M) P := z89 rfl rfl h
theorem w2j (h : We wce a M P) : Lw (C w8c a M) P := z89 rfl rfl h
theorem w2i (h : We wcc a M P) : Lw (C w8a a M) P := z89 rfl rfl h
theorem w2h (h : We wcb a M P) : Lw (C w89 a M) P := z89 rfl rfl h
theorem w2g (h : We wc8 a M P) : Lw (C w86 a M) P := z89 rfl rfl h
theorem w2l (h : We wcj a M P) : Lw (C w8h a M) P := z89 rfl rfl h
theorem w1e (h : Wr wcf a M r) : C w8d a M = some r := z8c rfl rfl h
theorem w1g (h : Wr wch a M r) : C w8f a M = some r := z8c rfl rfl h
theorem w1f (h : Wr wcg a M r) : C w8e a M = some r := z8c rfl rfl h
theorem w2k (h : We wci a M P) : Lw (C w8g a M) P := z89 rfl rfl h
theorem w2e (h : We wc6 a M P) : Lw (C w84 a M) P := z89 rfl rfl h
theorem w01 (h : Wr wat a M r) : C w6q a M = some r := z8c rfl rfl h
theorem w00 (h : Wr war a M r) : C w6p a M = some r := z8c rfl rfl h
theorem w10 (h : Wr wbv a M r) : C w7t a M = some r := z8c rfl rfl h
theorem w2d (h : We wbu a M P) : Lw (C w7s a M) P := z89 rfl rfl h
theorem w16 (h : Wr wc1 a M r) : C w7z a M = some r := z8c rfl rfl h
theorem w0j (h : Wr wbc a M r) : C w78 a M = some r := z8c rfl rfl h
theorem w0r (h : Wr wbk a M r) : C w7g a M = some r := z8c rfl rfl h
theorem w15 (h : Wr wc0 a M r) : C w7y a M = some r := z8c rfl rfl h
theorem w0i (h : Wr wbb a M r) : C w77 a M = some r := z8c rfl rfl h
theorem w06 (h : Wr waz a M r) : C w6v a M = some r := z8c rfl rfl h
theorem w19 (h : Wr wc4 a M r) : C w82 a M = some r := z8c rfl rfl h
theorem w13 (h : Wr wby a M r) : C w7w a M = some r := z8c rfl rfl h
theorem w05 (h : Wr wax a M r) : C w6u a M = some r := z8c rfl rfl h
theorem w2a (h : Wr wdu a M r) : C w9s a M = some r := z8c rfl rfl h
theorem w2c (h : Wr wdx a M r) : C w9v a M = some r := z8c rfl rfl h
theorem w1t (h : Wr wcz a M r) : C w8x a M = some r := z8c rfl rfl h
theorem w21 (h : Wr wdl a M r) : C w9j a M = some r := z8c rfl rfl h
theorem w1s (h : Wr wcy a M r) : C w8w a M = some r := z8c rfl rfl h
theorem w31 (h : We wde a M P) : Lw (C w9c a M) P := z89 rfl rfl h
theorem w32 (h : We wdf a M P) : Lw (C w9d a M) P := z89 rfl rfl h
theorem w2b (h : Wr wdw a M r) : C w9u a M = some r := z8c rfl rfl h
theorem w34 (h : We wdv a M P) : Lw (C w9t a M) P := z89 rfl rfl h
theorem w2n (h : We wcm a M P) : Lw (C w8k a M) P := z89 rfl rfl h
theorem w1j (h : Wr wco a M r) : C w8m a M = some r := z8c rfl rfl h
theorem w02 (h : Wr wau a M r) : C w6r a M = some r := z8c rfl rfl h
theorem w03 (h : Wr wav a M r) : C w6s a M = some r := z8c rfl rfl h
theorem w1i (h : Wr wcn a M r) : C w8l a M = some r := z8c rfl rfl h
theorem w0w (h : Wr wbp a M r) : C w7l a M = some r := z8c rfl rfl h
theorem w0x (h : Wr wbq a M r) : C w7m a M = some r := z8c rfl rfl h
theorem w0g (h : Wr wb9 a M r) : C w75 a M = some r := z8c rfl rfl h
theorem w0f (h : Wr wb8 a M r) : C w74 a M = some r := z8c rfl rfl h
theorem w0b (h : Wr wb4 a M r) : C w70 a M = some r := z8c rfl rfl h
theorem w04 (h : Wr waw a M r) : C w6t a M = some r := z8c rfl rfl h
theorem w0p (h : Wr wbi a M r) : C w7e a M = some r := z8c rfl rfl h
theorem w18 (h : Wr wc3 a M r) : C w81 a M = some r := z8c rfl rfl h
theorem w12 (h : Wr wbx a M r) : C w7v a M = some r := z8c rfl rfl h
theorem w0o (h : Wr wbh a M r) : C w7d a M = some r := z8c rfl rfl h
theorem w0k (h : Wr wbd a M r) : C w79 a M = some r := z8c rfl rfl h
theorem w0m (h : Wr wbf a M r) : C w7b a M = some r := z8c rfl rfl h
theorem w0d (h : Wr wb6 a M r) : C w72 a M = some r := z8c rfl rfl h
theorem w0c (h : Wr wb5 a M r) : C w71 a M = some r := z8c rfl rfl h
theorem w0l (h : Wr wbe a M r) : C w7a a M = some r := z8c rfl rfl h
theorem w07 (h : Wr wb0 a M r) : C w6w a M = some r := z8c rfl rfl h
theorem w0u (h : Wr wbn a M r) : C w7j a M = some r := z8c rfl rfl h
theorem we7 {es : List PV} (h : es.length ≤ 68719476736) : C w7q [.sl true 1 es] [] = some (.un t_int true 1 es, []) := zpi (e := w6m) rfl (by simp [w6m, zf3, h])
theorem we8 {es : List PV} (h : es.length ≤ 68719476736) : C w7r [.sl false 1 es] [] = some (.un wgp false 1 es, []) := zpi (e := w6n) rfl (by simp [w6n, zf3, h])
end Go.Proofs.YtbaclnecajkknaaGreat.Pi
