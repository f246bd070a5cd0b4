/- The forms of the functions that the law reaches, and their oracle. Definitions alone; no condition. -/
import Derived.Test.YtbaclnecajkknaaGreatPiExt
namespace Go.Proofs.YtbaclnecajkknaaGreat.Pi
open Go
set_option linter.all false
abbrev t_int:TypeId:=3
abbrev wgu:TypeId:=4
abbrev wgx:TypeId:=26
abbrev wgw:TypeId:=28
abbrev wh2:TypeId:=31
abbrev wh0:TypeId:=33
abbrev wgy:TypeId:=69
abbrev wh3:TypeId:=79
abbrev wgv:TypeId:=108
abbrev wh1:TypeId:=112
abbrev wgz:TypeId:=119
abbrev wh4:TypeId:=122
abbrev w8e:FuncId:=7
abbrev w9h:FuncId:=174
abbrev w9j:FuncId:=91
abbrev w9i:FuncId:=108
abbrev w9p:FuncId:=113
abbrev w9g:FuncId:=122
abbrev w9k:FuncId:=123
abbrev w9e:FuncId:=124
abbrev w9f:FuncId:=54
abbrev w8y:FuncId:=41
abbrev w87:FuncId:=69
abbrev w7r:FuncId:=237
abbrev w78:FuncId:=83
abbrev w79:FuncId:=169
abbrev w70:FuncId:=168
abbrev w8q:FuncId:=236
abbrev w8k:FuncId:=167
abbrev w6z:FuncId:=82
abbrev w8u:FuncId:=162
abbrev w8m:FuncId:=77
abbrev w82:FuncId:=255
abbrev w8r:FuncId:=238
abbrev w8l:FuncId:=172
abbrev w81:FuncId:=217
abbrev w7a:FuncId:=218
abbrev w80:FuncId:=148
abbrev w6y:FuncId:=67
abbrev w7q:FuncId:=239
abbrev w7p:FuncId:=186
abbrev w7x:FuncId:=109
abbrev w86:FuncId:=187
abbrev w7v:FuncId:=188
abbrev w7y:FuncId:=192
abbrev w7z:FuncId:=189
abbrev w8i:FuncId:=71
abbrev w7d:FuncId:=190
abbrev w83:FuncId:=191
abbrev w8n:FuncId:=242
abbrev w8b:FuncId:=194
abbrev w89:FuncId:=240
abbrev w8a:FuncId:=241
abbrev w88:FuncId:=193
abbrev w7o:FuncId:=110
abbrev w6x:FuncId:=42
abbrev w7n:FuncId:=195
abbrev w7m:FuncId:=111
abbrev w6w:FuncId:=43
abbrev w9l:FuncId:=112
abbrev w8w:FuncId:=44
abbrev w8o:FuncId:=179
abbrev w7f:FuncId:=114
abbrev w6u:FuncId:=45
abbrev w8x:FuncId:=46
abbrev w7h:FuncId:=196
abbrev w7g:FuncId:=115
abbrev w6v:FuncId:=47
abbrev w9m:FuncId:=136
abbrev w9o:FuncId:=170
abbrev w9q:FuncId:=171
abbrev w94:FuncId:=84
abbrev w9y:FuncId:=243
abbrev w9w:FuncId:=244
abbrev w9x:FuncId:=245
abbrev w95:FuncId:=213
abbrev w93:FuncId:=135
abbrev w9u:FuncId:=197
abbrev w97:FuncId:=116
abbrev w9s:FuncId:=198
abbrev w9v:FuncId:=199
abbrev w9c:FuncId:=200
abbrev w9t:FuncId:=201
abbrev w9n:FuncId:=66
abbrev w9z:FuncId:=202
abbrev wa0:FuncId:=203
abbrev w9d:FuncId:=204
abbrev w9b:FuncId:=117
abbrev w92:FuncId:=48
abbrev w96:FuncId:=205
abbrev w9a:FuncId:=118
abbrev w91:FuncId:=49
abbrev w9r:FuncId:=142
abbrev w98:FuncId:=119
abbrev w8z:FuncId:=50
abbrev w99:FuncId:=120
abbrev w90:FuncId:=51
abbrev w8g:FuncId:=30
abbrev w8h:FuncId:=121
abbrev w8f:FuncId:=52
abbrev w7s:FuncId:=56
abbrev w84:FuncId:=206
abbrev w85:FuncId:=125
abbrev w7u:FuncId:=173
abbrev w7t:FuncId:=88
abbrev w7i:FuncId:=151
abbrev w7l:FuncId:=90
abbrev w74:FuncId:=207
abbrev w8s:FuncId:=130
abbrev w73:FuncId:=127
abbrev w7k:FuncId:=107
abbrev w7j:FuncId:=126
abbrev w75:FuncId:=128
abbrev w8t:FuncId:=129
abbrev w7e:FuncId:=100
abbrev w7w:FuncId:=132
abbrev w7c:FuncId:=131
abbrev w77:FuncId:=209
abbrev w8p:FuncId:=208
abbrev w8v:FuncId:=210
abbrev w76:FuncId:=133
abbrev w72:FuncId:=212
abbrev w8j:FuncId:=211
abbrev w71:FuncId:=134
abbrev w7b:FuncId:=57
abbrev w6t:FuncId:=9
abbrev w8d:FuncId:=53
abbrev w8c:FuncId:=6
def w6r:List PV→Option PV:=zfe t_int true 1
@[go_sem] abbrev jn(o:IOp):IOper:=⟨none,o,none⟩
@[go_sem] abbrev js(k:Nat)(o:IOp):IOper:=⟨some k,o,none⟩
@[go_sem] abbrev jt(j:Nat)(o:IOp):IOper:=⟨none,o,some (j,true)⟩
@[go_sem] abbrev jf(j:Nat)(o:IOp):IOper:=⟨none,o,some (j,false)⟩
@[go_sem] abbrev jr(l:List IOper):ICode:=.region false [] l
@[go_sem] abbrev jc(n:Int):Opd:=.c (.int .i64 n)
@[go_sem] abbrev q0(a:Nat):IOper:=jn (.mov (.v a))
@[go_sem] abbrev q1(a:Nat)(b:Nat):IOper:=jn (.load false a (.r b))
@[go_sem] abbrev q2(a:Nat)(b:Nat):IOper:=js a (.mov (.r b))
@[go_sem] abbrev q3(a:Nat)(b:Nat):IOper:=jn (.faddr a (.v b))
@[go_sem] abbrev q4(a:Nat)(b:Int)(c:Nat)(d:Int)(e:Int):IOper:=js a (.alloc wgw [(.int .i64 b),(.nil false c),(.int .i64 d),(.int .i64 e)])
@[go_sem] abbrev q5(a:Nat):IOper:=js a (.mov (.c (.bool false)))
@[go_sem] abbrev q6(a:Nat)(b:Nat)(c:Nat):IOper:=jn (.store a (.v b) (.r c))
@[go_sem] abbrev q7(a:Nat)(b:Nat)(c:Nat):IOper:=js a (.bin false .lss (.v b) (.v c))
@[go_sem] abbrev q8(a:Nat)(b:Int):IOper:=jn (.bin false .add (.v a) (jc b))
@[go_sem] abbrev q9(a:Nat)(b:Nat)(c:Nat)(d:Nat):IOper:=js a (.alloc wgz [(.nil true b),(.nil true c),(.nil true d)])
@[go_sem] abbrev qa(a:Nat)(b:Nat)(c:Nat):IOper:=jn (.iaddr a (.r b) (.r c))
@[go_sem] abbrev qb(a:Nat)(b:Nat):IOper:=jn (.load true a (.v b))
@[go_sem] abbrev qc(a:Nat)(b:Nat):IOper:=jn (.faddr a (.r b))
@[go_sem] abbrev qd(a:Nat)(b:Nat)(c:Nat):IOper:=jf a (.load false b (.r c))
@[go_sem] abbrev qe(a:Nat):IOper:=jn (.mov (.r a))
@[go_sem] abbrev qf(a:Nat)(b:Nat):IOper:=jn (.pick (.r a) (.c (.bool true)) (.r b))
@[go_sem] abbrev qg(a:Nat)(b:Int):IOper:=js a (.mov (jc b))
@[go_sem] abbrev qh(a:Int)(b:Nat)(c:Int)(d:Int):IOper:=jn (.build [(.int .i64 a),(.nil false b),(.int .i64 c),(.int .i64 d)] [])
@[go_sem] abbrev qi(a:Nat)(b:Nat)(c:Nat):IOper:=jn (.iaddr a (.v b) (.v c))
@[go_sem] abbrev qj(a:Nat)(b:Nat):IOper:=jn (.load true a (.r b))
@[go_sem] abbrev qk(a:Nat)(b:Nat)(c:Nat):IOper:=js a (.pick (.r b) (.c (.bool true)) (.r c))
@[go_sem] abbrev ql(a:Nat)(b:Nat)(c:Nat):IOper:=jf a (.faddr b (.v c))
@[go_sem] abbrev qm(a:Nat)(b:Nat):IOper:=jn (.extract (.r a) b)
@[go_sem] abbrev qn(a:Nat)(b:Nat):IOper:=js a (.len false (.v b))
@[go_sem] abbrev qo(a:Nat)(b:Nat):IOper:=jn (.pick (.r a) (.r b) (.c (.bool false)))
@[go_sem] abbrev qp(a:Nat)(b:Nat):IOper:=js a (.nilrow t_int true b)
@[go_sem] abbrev qq(a:Nat)(b:Nat):IOper:=jn (.bslice false t_int true a [(.r b)])
@[go_sem] abbrev qr(a:Nat)(b:Nat)(c:Nat):IOper:=jn (.store a (.r b) (.r c))
@[go_sem] abbrev qs(a:Nat)(b:Nat)(c:Nat):IOper:=js a (.load false b (.r c))
@[go_sem] abbrev qt(a:Nat)(b:Int):IOper:=jn (.bin false .add (.r a) (jc b))
@[go_sem] abbrev qu(a:Nat):IOper:=js a (.mov (.c (.bool true)))
@[go_sem] abbrev qv(a:Nat):IOper:=jn (.len false (.r a))
@[go_sem] abbrev qw(a:Nat)(b:Nat)(c:Nat):IOper:=js a (.box wgw b (.v c))
@[go_sem] abbrev qx(a:Nat)(b:Nat)(c:Nat):IOper:=jn (.append t_int true a (.r b) (.r c))
@[go_sem] abbrev qy(a:Nat)(b:Nat):IOper:=jt a (.mov (.v b))
@[go_sem] abbrev qz(a:Nat)(b:Nat):IOper:=jf a (.mov (.v b))
@[go_sem] abbrev q36_(a:Nat)(b:Nat)(c:Nat):IOper:=jn (.stl a (.v b) (.r c))
@[go_sem] abbrev q37_(a:Nat)(b:Nat)(c:Nat):IOper:=jt a (.load false b (.r c))
@[go_sem] abbrev q38_(a:Nat)(b:Nat):IOper:=jn (.load false a (.v b))
@[go_sem] abbrev q39_(a:Nat)(b:Nat)(c:Nat):IOper:=jt a (.faddr b (.v c))
@[go_sem] abbrev q40_(a:Nat)(b:Nat)(c:Nat):IOper:=jf a (.load true b (.v c))
@[go_sem] abbrev q41_(a:Nat)(b:Int):IOper:=jn (.bin false .sub (.r a) (jc b))
@[go_sem] abbrev q42_(a:Nat)(b:Nat)(c:Nat)(d:Nat)(e:Nat):IOper:=jn (.callm w9g [(.r a),(.r b),(.r c),(.r d),(.r e)])
@[go_sem] abbrev q43_(a:Nat)(b:Nat)(c:Nat):IOper:=js a (.pick (.r b) (.r c) (.c (.bool false)))
@[go_sem] abbrev q44_(a:Nat)(b:Nat)(c:Nat):IOper:=js a (.box wgx b (.v c))
@[go_sem] abbrev q45_(a:Nat):IOper:=jn (.ncheck (.r a))
@[go_sem] abbrev q46_(a:Nat)(b:Nat):IOper:=jf a (.len false (.r b))
@[go_sem] abbrev q47_(a:Nat)(b:Int)(c:Int)(d:Nat)(e:Int):IOper:=js a (.alloc wh0 [(.int .i64 b),(.int .i64 c),(.nil true d),(.int .i64 e)])
@[go_sem] abbrev q48_(a:Nat)(b:Int)(c:Nat):IOper:=js a (.alloc wgx [(.int .i64 b),(.nil false c)])
@[go_sem] abbrev q49_(a:Nat)(b:Nat)(c:Nat):IOper:=js a (.bin false .neq (.r b) (.r c))
@[go_sem] abbrev q50_(a:Nat)(b:Nat):IOper:=jn (.callm w9j [(.r a),(.r b)])
@[go_sem] abbrev q51_(a:Nat)(b:Nat)(c:Nat):IOper:=jn (.append wgz false a (.r b) (.r c))
@[go_sem] abbrev q52_(a:Nat)(b:Nat):IOper:=jn (.store a (.r b) (.c (.bool true)))
@[go_sem] abbrev q53_(a:Nat)(b:Nat)(c:Int):IOper:=jn (.iaddr a (.r b) (jc c))
@[go_sem] abbrev q54_(a:Nat)(b:Nat):IOper:=jf a (.not (.r b))
@[go_sem] abbrev q55_(a:Nat)(b:Nat)(c:Nat):IOper:=js a (.bin false .lss (.r b) (.r c))
@[go_sem] abbrev q56_(a:Nat)(b:Nat):IOper:=jn (.mk wgu true a (.bool false) (.r b))
@[go_sem] abbrev q57_(a:Nat)(b:Nat)(c:Nat):IOper:=jf a (.bin false .eql (.r b) (.r c))
@[go_sem] abbrev q58_(a:Int)(b:Int)(c:Nat)(d:Int)(e:Nat)(f:Nat)(g:Int):IOper:=jn (.build [(.int .i64 a),(.int .i64 b),(.nil true c),(.int .i64 d)] [(e,f,(jc g))])
@[go_sem] abbrev q59_(a:Nat)(b:Nat):IOper:=js a (.mov (.v b))
@[go_sem] abbrev q60_(a:Nat)(b:Nat):IOper:=js a (.len false (.r b))
@[go_sem] abbrev q61_(a:Nat)(b:Int):IOper:=jn (.bin false .eql (.v a) (jc b))
@[go_sem] abbrev q62_(a:Nat)(b:Nat)(c:Int):IOper:=jf a (.bin false .sub (.r b) (jc c))
@[go_sem] abbrev q63_(a:Nat)(b:Nat)(c:Int):IOper:=jf a (.bin false .neq (.r b) (jc c))
@[go_sem] abbrev q64_(a:Nat)(b:Nat)(c:Nat):IOper:=jt a (.load true b (.r c))
@[go_sem] abbrev q65_(a:Nat)(b:Nat):IOper:=jn (.bslice false wgz false a [(.r b)])
@[go_sem] abbrev q66_(a:Nat)(b:Nat)(c:Nat):IOper:=js a (.call false w9l [(.r b),(.r c)])
@[go_sem] abbrev q67_(a:Nat)(b:Int)(c:Int)(d:Nat)(e:Nat)(f:Nat):IOper:=jn (.build [(.nil true a),(.int .i64 b),(.int .u64 c)] [(d,e,(.r f))])
@[go_sem] abbrev q68_(a:Nat)(b:Nat):IOper:=js a (.not (.r b))
@[go_sem] abbrev q69_(a:Nat)(b:Nat):IOper:=jn (.callm w9p [(.r a),(.r b)])
@[go_sem] abbrev q70_(a:Nat)(b:Nat)(c:Int):IOper:=js a (.bin false .gtr (.r b) (jc c))
@[go_sem] abbrev q71_(a:Nat):IOper:=jn (.not (.r a))
@[go_sem] abbrev q72_(a:Nat)(b:Int):IOper:=jn (.bin false .eql (.r a) (jc b))
@[go_sem] abbrev q73_(a:Nat)(b:Int):IOper:=jn (.bin false .neq (.r a) (jc b))
@[go_sem] abbrev q74_(a:Nat)(b:Nat)(c:Nat):IOper:=js a (.alloc wgy [(.nil false b),(.nil true c)])
@[go_sem] abbrev q75_(a:Nat)(b:Nat)(c:Nat)(d:Int):IOper:=jf a (.iaddr b (.r c) (jc d))
@[go_sem] abbrev q76_(a:Nat)(b:Nat):IOper:=jn (.callv false (.r a) [(.r b)])
@[go_sem] abbrev q77_(a:Nat):IOper:=jn (.call false w8i [(.r a)])
@[go_sem] abbrev q78_(a:Nat)(b:Nat):IOper:=js a (.nilrow wgu true b)
def wda:IFun:=⟨[0,1,4],
 (.seq (jr [q5 2])
 (.seq (jr [q0 0,qv 0,jn (.bin false .gtr (.r 1) (jc 1048576)),qe 2,qz 3 1,q46_ 3 4,qz 3 0,q46_ 3 6,jf 3 (.bin false .sub (jc 1048576) (.r 7)),jf 3 (.bin false .gtr (.r 5) (.r 8)),qf 3 9,q2 2 10])
 .ret)),
 [.v 2]⟩
def wec:IFun:=⟨[0,2,3,13,53],
 (.seq (jr [qg 1 0])
 (.seq (jr [qg 2 0])
 (.seq (.seq (.region true [] [q0 0,q45_ 0,qc 1 1,q1 1 2,q0 0,q45_ 4,qc 0 5,q1 1 6,qv 7,q55_ 3 3 8])
 (.cond (.v 3) (.region true [] [q0 0,q45_ 0,qc 0 1,q1 1 2,q0 0,q45_ 4,qc 1 5,q1 1 6,qa 1 3 7,q1 1 8,jn (.conv .i64 (.r 9)),q2 2 10]) .skip))
 (.seq (jr [q0 0,q45_ 0,qc 1 1,q1 1 2,qt 3 1,q45_ 0,qc 1 5,qr 1 6 4])
 (.seq (jr [q0 0,q0 0,q45_ 1,qc 2 2,q1 1 3,jn (.bin false .mul (.r 4) (.c (.int .u64 6364136223846793005))),q0 2,jn (.conv .u64 (.r 6)),jn (.bin false .add (.r 5) (.r 7)),jn (.bin false .add (.r 8) (.c (.int .u64 1442695040888963407))),q45_ 0,qc 2 10,qr 1 11 9])
 (.seq (.seq (.region true [] [q0 0,q45_ 0,qc 1 1,q1 1 2,q0 0,q45_ 4,qc 0 5,q1 1 6,qv 7,js 4 (.bin false .leq (.r 3) (.r 8))])
 (.cond (.v 4) (.seq (jr [q0 2,q2 1 0])
 .ret) .skip))
 (.seq (jr [q0 0,q45_ 0,qc 2 1,q1 1 2,jn (.bin false .shr (.r 3) (.c (.int .u64 40))),jn (.bin false .and (.r 4) (.c (.int .u64 255))),jn (.conv .i64 (.r 5)),q2 1 6])
 .ret))))))),
 [.v 1]⟩
def wee:IFun:=⟨[0,1,4,5,7,11],
 (.seq (jr [qg 2 0])
 (.seq (.seq (jr [q0 1,js 4 (.bin false .leq (.r 0) (jc 1))])
 (.cond (.v 4) (.seq (jr [qg 2 0])
 .ret) .skip))
 (.seq (jr [q0 0,jn (.callm w9h [(.r 0)]),q2 3 1])
 (.seq (.seq (jr [q0 1,q70_ 5 0 200])
 (.cond (.v 5) (jr [q0 3,jn (.bin false .mul (.r 0) (jc 256)),q0 0,jn (.callm w9h [(.r 2)]),jn (.bin false .add (.r 1) (.r 3)),q2 3 4]) .skip))
 (.seq (jr [q0 3,q0 1,jn (.bin false .rem (.r 0) (.r 1)),q2 2 2])
 .ret))))),
 [.v 2]⟩
def wed:IFun:=⟨[0,1,4],
 (.seq (jr [q5 2])
 (.seq (jr [q0 0,q0 1,q50_ 0 1,q72_ 2 0,q2 2 3])
 .ret)),
 [.v 2]⟩
def wek:IFun:=⟨[0,1,4,5,6,18,32],
 (.seq (jr [qp 2 1])
 (.seq (jr [qg 3 0])
 (.seq (.block 0 (.loop [true,true,false,true,false,false,false] (.seq (.seq (jr [q0 3,q0 0,qv 1,jn (.bin false .lss (.r 0) (.r 2)),qe 3,qy 4 0,qy 4 3,jt 4 (.iaddr 1 (.r 5) (.r 6)),q37_ 4 1 7,qy 4 1,jt 4 (.bin false .lss (.r 8) (.r 9)),q43_ 5 4 10])
 (.cond (.v 5) .skip (.exit 0)))
 (.block 1 (jr [q0 3,qt 0 1,q2 3 1])))))
 (.seq (.seq (jr [q0 3,q0 0,qv 1,jn (.bin false .lss (.r 0) (.r 2)),qe 3,qy 4 0,qy 4 3,jt 4 (.iaddr 1 (.r 5) (.r 6)),q37_ 4 1 7,qy 4 1,jt 4 (.bin false .eql (.r 8) (.r 9)),q43_ 6 4 10])
 (.cond (.v 6) (.seq (jr [q0 0,q2 2 0])
 .ret) .skip))
 (.seq (jr [jn (.bslice false t_int true 1 []),q0 0,q0 3,jn (.slice 1 (.r 1) none (some (.r 2))),qx 1 0 3,q2 4 4])
 (.seq (jr [q0 4,q0 1,qq 1 1,qx 1 0 2,q2 4 3])
 (.seq (jr [q0 4,q0 0,q0 3,jn (.slice 1 (.r 1) (some (.r 2)) none),qx 1 0 3,q2 2 4])
 .ret))))))),
 [.v 2]⟩
def web:IFun:=⟨[0,1,2,3,4,10,27,47,91,115,131],
 (.seq (.seq (jr [q0 4,q72_ 0 0,qe 1,qz 2 1,jf 2 (.ncheck (.r 3)),jf 2 (.faddr 0 (.r 4)),qd 2 1 5,jf 2 (.bin false .gtr (.r 6) (jc 9)),qf 2 7,qe 8,qz 9 1,jf 9 (.ncheck (.r 10)),jf 9 (.faddr 1 (.r 11)),qd 9 1 12,q46_ 9 13,jf 9 (.bin false .gtr (.r 14) (jc 12)),qk 6 9 15])
 (.cond (.v 6) (.seq (jr [q0 1,q0 1,q45_ 1,qc 1 2,q1 1 3,q0 2,qq 1 5,q0 3,qq 1 7,jn (.build [(.nil true 1),(.nil true 1),(.nil true 1)] [(0,1,(.r 6)),(1,1,(.r 8))]),q65_ 3 9,q51_ 3 4 10,q45_ 0,qc 1 12,qr 1 13 11])
 .ret) .skip))
 (.seq (jr [q0 1,q45_ 0,qc 0 1,q1 1 2,q2 5 3])
 (.seq (jr [q0 0,js 7 (.callm w9j [(.r 0),(jc 5)])])
 (.block 0 (.seq (.seq (jr [q61_ 7 0,q2 8 0])
 (.cond (.v 8) .skip (jr [q61_ 7 1,q2 8 0])))
 (.cond (.v 8) (.seq (jr [q0 1,q45_ 0,qc 0 1,q1 1 2,qt 3 1,q45_ 0,qc 0 5,qr 1 6 4])
 (.seq (jr [q0 0,q0 1,q0 2,q0 5,q0 4,q41_ 4 1,q42_ 0 1 2 3 5])
 (jr [q0 0,q0 1,q0 5,q0 3,q0 4,q41_ 4 1,q42_ 0 1 2 3 5]))) (.seq (jr [q61_ 7 2,q2 9 0])
 (.cond (.v 9) (.seq (jr [q0 0,q0 1,q0 2,q0 3,q0 4,q41_ 4 1,q42_ 0 1 2 3 5])
 (jr [q0 0,q0 1,q0 2,q0 3,q0 4,q41_ 4 1,q42_ 0 1 2 3 5])) (.seq (jr [q61_ 7 3,q2 10 0])
 (.cond (.v 10) (.seq (jr [q0 1,q45_ 0,qc 0 1,q1 1 2,qt 3 4,q45_ 0,qc 0 5,qr 1 6 4])
 (.seq (.region true [(18,4),(20,4)] [q0 1,q0 1,q45_ 1,qc 1 2,q1 1 3,q0 2,jn (.bslice true t_int true 1 [(.r 5)]),q0 5,q0 5,qt 8 1,jn (.bslice true t_int true 1 [(.r 7),(.r 9)]),jn (.build [(.nil true 1),(.nil true 1),(.nil true 1)] [(0,1,(.r 6)),(1,1,(.r 10))]),q0 5,qt 12 2,q0 5,qt 14 3,jn (.bslice true t_int true 1 [(.r 13),(.r 15)]),q0 3,jn (.callm w9p [(.c (.nil true 1)),(.r 17)]),jn (.build [(.nil true 1),(.nil true 1),(.nil true 1)] [(0,1,(.r 16)),(1,1,(.r 18))]),jn (.bslice false wgz false 3 [(.r 11),(.r 19)]),q51_ 3 4 20,q45_ 0,qc 1 22,qr 1 23 21])
 (.seq (jr [q0 0,q0 1,q0 5,q0 5,qt 3 2,q0 4,q41_ 5 1,q42_ 0 1 2 4 6])
 (jr [q0 0,q0 1,q0 5,qt 2 1,q0 5,qt 4 3,q0 4,q41_ 6 1,q42_ 0 1 3 5 7])))) (.seq (jr [q0 1,q45_ 0,qc 0 1,q1 1 2,qt 3 2,q45_ 0,qc 0 5,qr 1 6 4])
 (.seq (jr [q0 1,q0 1,q45_ 1,qc 1 2,q1 1 3,q0 2,qq 1 5,q0 5,qq 1 7,jn (.build [(.nil true 1),(.nil true 1),(.nil true 1)] [(0,1,(.r 6)),(1,1,(.r 8))]),q0 5,qt 10 1,qq 1 11,q0 3,qq 1 13,jn (.build [(.nil true 1),(.nil true 1),(.nil true 1)] [(0,1,(.r 12)),(1,1,(.r 14))]),jn (.bslice false wgz false 3 [(.r 9),(.r 15)]),q51_ 3 4 16,q45_ 0,qc 1 18,qr 1 19 17])
 (.seq (jr [q0 0,q0 1,q0 5,q0 5,qt 3 1,q0 4,q41_ 5 1,q42_ 0 1 2 4 6])
 (jr [q0 0,q0 1,q0 5,qt 2 1,q0 5,q0 4,q41_ 5 1,q42_ 0 1 3 4 6])))))))))))))),
 []⟩
def wef:IFun:=⟨[0,1,2,3,8,9,10,20],
 (.seq (jr [qp 4 1])
 (.seq (jr [qp 5 1])
 (.seq (.seq (jr [q0 2,q0 0,q0 3,q0 2,jn (.bin false .sub (.r 2) (.r 3)),qt 4 1,q50_ 1 5,jn (.bin false .add (.r 0) (.r 6)),q2 6 7])
 (.block 0 (.loop [true,true,false,false,false,true,true,false] (.seq (.seq (jr [q0 6,q70_ 7 0 0])
 (.cond (.v 7) .skip (.exit 0)))
 (.seq (.block 1 (jr [q0 5,q0 0,q0 1,q50_ 1 2,q69_ 0 3,q2 5 4]))
 (jr [q0 6,q41_ 0 1,q2 6 1]))))))
 (.seq (jr [q0 5,q2 4 0])
 .ret)))),
 [.v 4]⟩
def we9:IFun:=⟨[0,1,4],
 (.seq (jr [qg 2 0])
 (.seq (jr [q0 1,q0 0,q0 1,qv 2,q50_ 1 3,qa 1 0 4,q1 1 5,q2 2 6])
 .ret)),
 [.v 2]⟩
def wea:IFun:=⟨[0,1,4,5,6,7,23,24,46,67,88,90,103],
 (.seq (jr [q4 2 0 3 0 0])
 (.seq (jr [jn (.build [(.int .i64 0),(.nil false 3)] [(0,1,(jc 2))]),q48_ 3 0 3,q6 2 3 0])
 (.seq (jr [q0 0,q0 0,jn (.callm w9j [(.r 1),(jc 3)]),jn (.bin false .add (jc 1) (.r 2)),jn (.callm w9g [(.r 0),(.v 3),(jc 0),(jc 1),(.r 3)])])
 (.seq (jr [qb 2 3,jn (.build [(.int .i64 0),(.nil false 3),(.int .i64 0),(.int .i64 0)] [(0,2,(.r 0)),(2,1,(jc 0)),(3,1,(jc 1))]),q4 4 0 3 0 0,q6 4 4 1])
 (.seq (jr [q0 0,q3 0 4,qc 1 1,q1 1 2,qv 3,q50_ 0 4,q2 5 5])
 (.seq (.seq (jr [q0 0,js 6 (.callm w9j [(.r 0),(jc 9)])])
 (.block 0 (.seq (jr [q61_ 6 0,q2 7 0])
 (.cond (.v 7) (.region true [(11,2),(11,10),(13,2),(16,2)] [q3 0 4,qc 1 0,q1 1 1,q0 0,q3 0 4,qc 0 4,q1 1 5,q0 0,q3 0 4,qc 0 8,q1 1 9,q50_ 3 6,jn (.bslice true t_int true 1 [(.r 11)]),q50_ 7 10,jn (.bslice true t_int true 1 [(.r 13)]),jn (.build [(.nil true 1),(.nil true 1),(.nil true 1)] [(0,1,(.r 12)),(1,1,(.r 14))]),q65_ 3 15,q51_ 3 2 16,q3 0 4,qc 1 18,qr 1 19 17]) (.seq (jr [q61_ 6 1,q2 8 0])
 (.cond (.v 8) (.region true [(15,2),(15,6),(15,10),(16,2)] [q3 0 4,qc 1 0,q1 1 1,q0 5,q3 0 4,qc 1 4,q1 1 5,q0 5,qa 3 6 7,qc 1 8,q1 1 9,q0 0,q3 0 4,qc 0 12,q1 1 13,q50_ 11 14,q69_ 10 15,qa 3 2 3,qc 1 17,qr 1 18 16]) (.seq (jr [q61_ 6 2,q2 9 0])
 (.cond (.v 9) (.region true [(15,2),(15,6),(15,10),(16,2)] [q3 0 4,qc 1 0,q1 1 1,q0 5,q3 0 4,qc 1 4,q1 1 5,q0 5,qa 3 6 7,qc 0 8,q1 1 9,q0 0,q3 0 4,qc 0 12,q1 1 13,q50_ 11 14,q69_ 10 15,qa 3 2 3,qc 0 17,qr 1 18 16]) (.seq (jr [q61_ 6 3,q2 10 0])
 (.cond (.v 10) (.seq (jr [q59_ 11 1])
 (.cond (.v 11) (.region true [(8,2)] [q3 0 4,qc 1 0,q1 1 1,q0 5,q0 0,q3 0 4,qc 0 5,q1 1 6,jn (.callm w9k [(.r 4),(.r 7),(jc 1),(jc 2)]),qa 3 2 3,qc 2 9,qr 1 10 8]) .skip)) .skip))))))))))
 (.seq (.seq (jr [q0 0,js 12 (.callm w9i [(.r 0),(jc 30)])])
 (.cond (.v 12) (jr [q0 0,jn (.bslice false t_int true 1 [(jc 0),(jc (-1)),(jc 2),(jc 17)]),jn (.callm w9e [(.r 0),(.r 1)]),q3 3 4,qr 1 3 2]) .skip))
 (.seq (jr [qb 4 4,q6 4 2 0])
 .ret)))))))),
 [.cell true 4 2]⟩
def wdt:IFun:=⟨[0,2,3],
 (.seq (jr [q4 1 0 3 0 0])
 (.seq (jr [q0 0,q67_ 1 0 0 0 1 0,jn (.box wh3 3 (.r 1)),q2 2 2])
 (.seq (jr [q0 2,q0 2,jn (.callm w9i [(.r 1),(jc 12)]),jn (.callm w9f [(.r 0),(.r 2)]),q6 4 1 3])
 .ret))),
 [.cell true 4 1]⟩
def wd3:IFun:=⟨[0,1,2,6],
 (.seq (jr [q5 3])
 (.seq (jr [q0 0,q0 1,jn (.bin false .geq (.r 0) (.r 1)),qe 2,qy 3 0,qy 3 2,jt 3 (.bin false .leq (.r 4) (.r 5)),qo 3 6,q2 3 7])
 .ret)),
 [.v 3]⟩
def wcn:IFun:=⟨[0,2,3,7,19],
 (.seq (jr [q5 1])
 (.seq (.seq (jr [qg 2 1])
 (.block 0 (.loop [true,false,true,false,false] (.seq (.seq (jr [q0 2,q0 0,qv 1,q55_ 3 0 2])
 (.cond (.v 3) .skip (.exit 0)))
 (.seq (.block 1 (.seq (.region true [] [q0 0,q0 2,q41_ 1 1,qa 1 0 2,q1 1 3,q0 0,q0 2,qa 1 5 6,q1 1 7,js 4 (.bin false .geq (.r 4) (.r 8))])
 (.cond (.v 4) (.seq (jr [q5 1])
 .ret) .skip)))
 (jr [q0 2,qt 0 1,q2 2 1]))))))
 (.seq (jr [qu 1])
 .ret))),
 [.v 1]⟩
def wc4:IFun:=⟨[0,1,2,6,8,9,10,11,12,19],
 (.seq (jr [q5 3])
 (.seq (.seq (jr [q59_ 5 0,qn 6 5,qg 7 0])
 (.block 0 (.loop [false,true,true,false,false,true,true,true,false,false] (.seq (jr [q7 8 7 6])
 (.seq (.cond (.v 8) .skip (.exit 0))
 (.seq (.block 1 (.seq (jr [qi 1 5 7,q1 1 0,q2 4 1])
 (.seq (jr [q0 4,q0 1,q0 2,jn (.call false w87 [(.r 0),(.r 1),(.r 2)]),q68_ 9 3])
 (.cond (.v 9) (.seq (jr [q5 3])
 .ret) .skip))))
 (jr [q8 7 1,q2 7 0])))))))
 (.seq (jr [qu 3])
 .ret))),
 [.v 3]⟩
def wc5:IFun:=⟨[0,1,2,4],
 (.seq (jr [q44_ 2 2 0,q5 3])
 (.seq (jr [q0 1,jn (.call false w7r [(.r 0)]),qe 1,qy 2 1,q39_ 2 0 2,q37_ 2 1 4,jt 2 (.bin false .sub (.r 5) (jc 1)),jt 2 (.call false w78 [(.r 3),(jc 0),(.r 6)]),qo 2 7,q2 3 8])
 .ret)),
 [.v 3]⟩
def wbw:IFun:=⟨[0,1,2,3],
 (.seq (jr [js 2 (.box wgz 3 (.v 0)),q5 3])
 (.seq (jr [q3 0 2,q1 1 0,qv 1,q72_ 2 0,qe 3,q40_ 4 2 1,ql 4 0 2,qd 4 1 6,jf 4 (.call false w79 [(.r 5),(.r 7)]),q54_ 4 8,qf 4 9,qe 10,q40_ 11 2 1,ql 11 1 2,qd 11 1 13,jf 11 (.call false w79 [(.r 12),(.r 14)]),q54_ 11 15,qf 11 16,qe 17,q40_ 18 2 1,ql 18 2 2,qd 18 1 20,jf 18 (.call false w79 [(.r 19),(.r 21)]),q54_ 18 22,qf 18 23,q2 3 24])
 .ret)),
 [.v 3]⟩
def wdl:IFun:=⟨[0,1,4,5,7,8,9,16],
 (.seq (jr [qg 2 0])
 (.seq (.seq (jr [q0 0,q60_ 4 0,qg 5 0])
 (.block 0 (.loop [true,true,false,false,true,true,false,false] (.seq (jr [q7 6 5 4])
 (.seq (.cond (.v 6) .skip (.exit 0))
 (.seq (.block 1 (.seq (jr [q0 5,q2 3 0])
 (.seq (jr [q0 1,q0 0,q0 3,qa 3 1 2,qj 3 3,js 7 (.callv false (.r 0) [(.r 4)])])
 (.cond (.v 7) (.seq (jr [q0 3,q2 2 0])
 .ret) .skip))))
 (jr [q8 5 1,q2 5 0])))))))
 (.seq (jr [js 2 (.mov (jc (-1)))])
 .ret))),
 [.v 2]⟩
def wdf:IFun:=⟨[0,1,4],
 (.seq (jr [q5 2])
 (.seq (jr [q0 0,q0 1,jn (.call false w8q [(.r 0),(.r 1)]),jn (.bin false .geq (.r 2) (jc 0)),q2 2 3])
 .ret)),
 [.v 2]⟩
def wbv:IFun:=⟨[0,1,2],
 (.seq (jr [q44_ 1 2 0,q5 2])
 (.seq (jr [q3 0 1,q1 1 0,jn (.call false w87 [(.r 1),(jc 1),(jc 16)]),qe 2,q39_ 3 1 1,q37_ 3 1 4,jt 3 (.len false (.r 5)),jt 3 (.bin false .leq (.r 6) (jc 24)),qo 3 7,qe 8,q39_ 9 1 1,q37_ 9 1 10,jt 9 (.mkfn w70 [(.v 1)]),jt 9 (.call false w8k [(.r 11),(.r 12)]),jt 9 (.not (.r 13)),qo 9 14,q2 2 15])
 .ret)),
 [.v 2]⟩
def wdp:IFun:=⟨[0,1,4,5,7,8,9,16],
 (.seq (jr [qg 2 0])
 (.seq (.seq (jr [q0 0,q60_ 4 0,qg 5 0])
 (.block 0 (.loop [true,true,false,false,true,true,false,false] (.seq (jr [q7 6 5 4])
 (.seq (.cond (.v 6) .skip (.exit 0))
 (.seq (.block 1 (.seq (jr [q0 5,q2 3 0])
 (.seq (jr [q0 1,q0 0,q0 3,qa 1 1 2,q1 1 3,js 7 (.bin false .eql (.r 0) (.r 4))])
 (.cond (.v 7) (.seq (jr [q0 3,q2 2 0])
 .ret) .skip))))
 (jr [q8 5 1,q2 5 0])))))))
 (.seq (jr [js 2 (.mov (jc (-1)))])
 .ret))),
 [.v 2]⟩
def wdh:IFun:=⟨[0,1,4],
 (.seq (jr [q5 2])
 (.seq (jr [q0 0,q0 1,jn (.call false w8u [(.r 0),(.r 1)]),jn (.bin false .geq (.r 2) (jc 0)),q2 2 3])
 .ret)),
 [.v 2]⟩
def wcy:IFun:=⟨[0,1,3],
 (.seq (jr [q5 2])
 (.seq (jr [q38_ 1 1,q0 0,qa 1 0 1,q1 1 2,q2 2 3])
 .ret)),
 [.v 2]⟩
def wdm:IFun:=⟨[0,1,4,5,7,8,9,16],
 (.seq (jr [qg 2 0])
 (.seq (.seq (jr [q0 0,q60_ 4 0,qg 5 0])
 (.block 0 (.loop [true,true,false,false,true,true,false,false] (.seq (jr [q7 6 5 4])
 (.seq (.cond (.v 6) .skip (.exit 0))
 (.seq (.block 1 (.seq (jr [q0 5,q2 3 0])
 (.seq (jr [q0 1,q0 0,q0 3,qa 1 1 2,q1 1 3,js 7 (.callv false (.r 0) [(.r 4)])])
 (.cond (.v 7) (.seq (jr [q0 3,q2 2 0])
 .ret) .skip))))
 (jr [q8 5 1,q2 5 0])))))))
 (.seq (jr [js 2 (.mov (jc (-1)))])
 .ret))),
 [.v 2]⟩
def wdg:IFun:=⟨[0,1,4],
 (.seq (jr [q5 2])
 (.seq (jr [q0 0,q0 1,jn (.call false w8r [(.r 0),(.r 1)]),jn (.bin false .geq (.r 2) (jc 0)),q2 2 3])
 .ret)),
 [.v 2]⟩
def wcx:IFun:=⟨[0,1,2,3,6,7,8,9,10,11,12,13,14,16,27,29,30,31,32,40,52,56,57,58,59],
 (.seq (jr [q44_ 3 2 0,q78_ 4 1,q78_ 5 1])
 (.seq (.region true [(8,4)] [q3 0 3,q1 1 0,q56_ 1 1,q3 1 3,q1 1 3,qv 4,q56_ 1 5,js 6 (.alloc wh1 [(.nil true 1)]),q6 1 6 2,q2 7 6])
 (.seq (jr [q38_ 1 6,q0 1,qa 1 0 1,q52_ 1 2])
 (.seq (.seq (jr [qu 8])
 (.block 0 (.loop [false,false,true,true,false,false,true,true,true,false,false,false,false,false,false,false,false,false,false,false,false,false,false,false,false] (.seq (.seq (jr [q59_ 14 8])
 (.cond (.v 14) .skip (.exit 0)))
 (.block 1 (.seq (jr [q5 8])
 (.seq (jr [q3 1 3,qs 15 1 0,qn 16 15,qg 17 0])
 (.block 2 (.loop [false,false,true,true,false,false,true,true,true,false,false,false,false,false,false,true,true,true,false,false,false,false,false,false,false] (.seq (jr [q7 18 17 16])
 (.seq (.cond (.v 18) .skip (.exit 2))
 (.seq (.block 3 (.seq (jr [q0 17,qi 3 15 17,qj 3 1,q9 10 1 1 1,q2 9 0,q6 3 10 2])
 (.seq (.region true [] [q3 0 10,q1 1 0,q3 1 10,q1 1 2,q2 11 1,q2 12 3])
 (.seq (.seq (jr [q59_ 19 2])
 (.cond (.v 19) (jr [q0 12,q0 11,q2 11 0,q2 12 1]) .skip))
 (.seq (.seq (jr [q0 7,q0 9,qa 1 0 1,q1 1 2,qe 3,qz 4 11,jf 4 (.mkfn w82 [(.v 6)]),jf 4 (.call false w8l [(.r 5),(.r 6)]),q54_ 4 7,qk 20 4 8])
 (.cond (.v 20) (.exit 3) .skip))
 (.seq (jr [q0 7,q0 9,qa 1 0 1,q52_ 1 2,qu 8])
 (.seq (jr [q59_ 21 12,qn 22 21,qg 23 0])
 (.block 4 (.loop [false,false,true,true,false,false,true,true,true,false,false,false,false,false,false,true,true,true,false,false,false,true,true,true,false] (.seq (jr [q7 24 23 22])
 (.seq (.cond (.v 24) .skip (.exit 4))
 (.seq (.block 5 (.seq (jr [qi 1 21 23,q1 1 0,q2 13 1])
 (jr [q38_ 1 6,q0 13,qa 1 0 1,q52_ 1 2])))
 (jr [q8 23 1,q2 23 0])))))))))))))
 (jr [q8 17 1,q2 17 0])))))))))))))
 (.seq (jr [q38_ 1 6,q0 7,q2 4 0,q2 5 1])
 .ret))))),
 [.v 4,.v 5]⟩
def wc6:IFun:=⟨[0,1,4,5,6,7,8,9,10,11,21],
 (.seq (jr [qp 2 1])
 (.seq (jr [qp 3 1])
 (.seq (.seq (jr [q59_ 6 0,qn 7 6,qg 8 0])
 (.block 0 (.loop [false,true,false,true,false,false,true,true,true,false,false] (.seq (jr [q7 9 8 7])
 (.seq (.cond (.v 9) .skip (.exit 0))
 (.seq (.block 1 (.seq (jr [q0 8,qi 1 6 8,q1 1 1,q2 4 0,q2 5 2])
 (.seq (jr [q0 5,qe 0,qy 1 1,qy 1 4,jt 1 (.iaddr 1 (.r 2) (.r 3)),q37_ 1 1 4,q43_ 10 1 5])
 (.cond (.v 10) (jr [q0 3,q0 4,qq 1 1,qx 1 0 2,q2 3 3]) .skip))))
 (jr [q8 8 1,q2 8 0])))))))
 (.seq (jr [q0 3,q2 2 0])
 .ret)))),
 [.v 2]⟩
def wcw:IFun:=⟨[0,1,2,3,6,7,8,9,10,11],
 (.seq (jr [q44_ 3 2 0,qp 4 1,qp 5 1])
 (.seq (jr [qb 2 3,q0 1,jn (.call false w81 [(.r 0),(.r 1),(.c (.bool false))]),qe 2,qm 3 0,qm 3 1,q2 6 4,q2 7 5])
 (.seq (jr [qb 2 3,q0 2,jn (.call false w81 [(.r 0),(.r 1),(.c (.bool true))]),qe 2,qm 3 0,qm 3 1,q2 8 4,q2 9 5])
 (.seq (jr [q0 6,q0 8,jn (.call false w7a [(.r 0),(.r 1)]),q0 7,q0 9,jn (.call false w7a [(.r 3),(.r 4)]),q2 4 2,q2 5 5])
 .ret)))),
 [.v 4,.v 5]⟩
def wbu:IFun:=⟨[0,1,2,3,5,6,7,37,39,40,41,42,70],
 (.seq (jr [qw 1 4 0,q5 2])
 (.seq (jr [q3 0 1,qj 2 0,q48_ 3 0 3,q6 2 3 1])
 (.seq (.seq (jr [qb 2 3,jn (.call false w6z [(.r 0)]),q71_ 1,qe 2,ql 3 2 1,qd 3 1 4,ql 3 0 3,qd 3 1 6,q62_ 3 7 1,jf 3 (.call false w87 [(.r 5),(jc 0),(.r 8)]),q54_ 3 9,qf 3 10,qe 11,ql 12 3 1,qd 12 1 13,ql 12 0 3,qd 12 1 15,q62_ 12 16 1,jf 12 (.call false w87 [(.r 14),(jc 0),(.r 17)]),q54_ 12 18,qf 12 19,qe 20,ql 21 2 1,qd 21 1 22,ql 21 3 1,qd 21 1 24,q57_ 21 23 25,qk 7 21 26])
 (.cond (.v 7) (.seq (jr [q5 2])
 .ret) .skip))
 (.seq (.seq (jr [q3 1 3,qs 8 1 0,qn 9 8,qg 10 0])
 (.block 0 (.loop [false,true,false,true,false,false,false,false,true,true,true,false,false] (.seq (jr [q7 11 10 9])
 (.seq (.cond (.v 11) .skip (.exit 0))
 (.seq (.block 1 (.seq (jr [qi 3 8 10,qj 3 0,q9 4 1 1 1,q6 3 4 1])
 (.seq (jr [q3 1 4,q1 1 0,q3 2 1,q1 1 2,jn (.call false w8m [(.r 1),(.r 3)]),qe 4,ql 5 0 4,qd 5 1 6,ql 5 3 1,qd 5 1 8,jf 5 (.call false w8m [(.r 7),(.r 9)]),qf 5 10,qe 11,ql 12 2 4,qd 12 1 13,ql 12 2 1,qd 12 1 15,jf 12 (.call false w8m [(.r 14),(.r 16)]),qf 12 17,qe 18,ql 19 2 4,qd 19 1 20,ql 19 3 1,qd 19 1 22,jf 19 (.call false w8m [(.r 21),(.r 23)]),qk 12 19 24])
 (.cond (.v 12) (.seq (jr [q5 2])
 .ret) .skip))))
 (jr [q8 10 1,q2 10 0])))))))
 (.seq (jr [qb 2 3,q3 2 1,q1 1 1,q3 3 1,q1 1 3,jn (.call false w80 [(.r 0),(.r 2),(.r 4)]),qe 5,qm 6 0,qm 6 1,q2 5 7,q2 6 8])
 (.seq (jr [q0 5,qv 0,q3 0 3,q1 1 2,jn (.bin false .eql (.r 1) (.r 3)),qe 4,qy 5 6,jt 5 (.len false (.r 6)),q39_ 5 1 3,q37_ 5 1 8,jt 5 (.len false (.r 9)),jt 5 (.bin false .eql (.r 7) (.r 10)),qo 5 11,q2 2 12])
 .ret)))))),
 [.v 2]⟩
def wcm:IFun:=⟨[0,1,2],
 (.seq (jr [js 1 (.box wgz 3 (.v 0)),q5 2])
 (.seq (jr [q3 2 1,q1 1 0,qv 1,jn (.bin false .gtr (.r 2) (jc 0)),q2 2 3])
 .ret)),
 [.v 2]⟩
def wcl:IFun:=⟨[0,1,2],
 (.seq (jr [q44_ 1 2 0,q5 2])
 (.seq (jr [q3 1 1,q1 1 0,jn (.call false w8k [(.r 1),(.c (.clo w7q []))]),q2 2 2])
 .ret)),
 [.v 2]⟩
def wct:IFun:=⟨[0,1,2],
 (.seq (jr [qw 1 4 0,q5 2])
 (.seq (jr [qb 4 1,jn (.call false w6y [(.r 0)]),qe 1,q39_ 2 0 1,q64_ 2 2 3,jt 2 (.call false w7p [(.r 4)]),jt 2 (.not (.r 5)),qo 2 6,q2 2 7])
 .ret)),
 [.v 2]⟩
def wd2:IFun:=⟨[0,1,2,3,6,7,8,9,11,12,13,14,34],
 (.seq (jr [q44_ 3 2 0,qp 4 1])
 (.seq (jr [qp 5 1])
 (.seq (.seq (jr [q3 1 3,qs 8 1 0,qn 9 8,qg 10 0])
 (.block 0 (.loop [false,true,true,false,false,true,false,false,true,true,true,false,false] (.seq (jr [q7 11 10 9])
 (.seq (.cond (.v 11) .skip (.exit 0))
 (.seq (.block 1 (.seq (jr [q0 10,qi 3 8 10,qj 3 1,q9 7 1 1 1,q2 6 0,q6 3 7 2])
 (.seq (jr [q0 2,q71_ 0,qe 1,q39_ 2 0 7,q37_ 2 1 3,qy 2 1,jt 2 (.call false w8m [(.r 4),(.r 5)]),qo 2 6,qe 7,qz 8 2,jf 8 (.mov (.r 9)),q39_ 10 1 7,q37_ 10 1 11,qy 10 1,jt 10 (.call false w8m [(.r 12),(.r 13)]),jf 8 (.pick (.r 10) (.r 14) (.c (.bool false))),qk 12 8 15])
 (.cond (.v 12) (jr [q0 5,q0 6,qq 1 1,qx 1 0 2,q2 5 3]) .skip))))
 (jr [q8 10 1,q2 10 0])))))))
 (.seq (jr [q0 5,q2 4 0])
 .ret)))),
 [.v 4]⟩
def wcr:IFun:=⟨[0,1,2,4],
 (.seq (jr [qw 2 4 0,q5 3])
 (.seq (jr [q0 1,q3 2 2,q1 1 1,jn (.bin false .neq (.r 0) (.r 2)),qe 3,qy 4 1,q39_ 4 3 2,q37_ 4 1 6,jt 4 (.bin false .neq (.r 5) (.r 7)),qo 4 8,q2 3 9])
 .ret)),
 [.v 3]⟩
def wcu:IFun:=⟨[0,2,3,5,6,7,8,9],
 (.seq (jr [qg 1 0])
 (.seq (jr [qg 2 0])
 (.seq (.seq (jr [q59_ 4 0,qn 5 4,qg 6 0])
 (.block 0 (.loop [false,false,true,false,true,true,true,false] (.seq (jr [q7 7 6 5])
 (.seq (.cond (.v 7) .skip (.exit 0))
 (.seq (.block 1 (.seq (jr [qi 1 4 6,q1 1 0,q2 3 1])
 (jr [q0 2,q0 3,jn (.bin false .shl (jc 1) (.r 1)),jn (.bin false .or (.r 0) (.r 2)),q2 2 3])))
 (jr [q8 6 1,q2 6 0])))))))
 (.seq (jr [q0 2,q2 1 0])
 .ret)))),
 [.v 1]⟩
def wcv:IFun:=⟨[0,1,4],
 (.seq (jr [q5 2])
 (.seq (jr [q0 0,jn (.call false w7y [(.r 0)]),q0 1,jn (.call false w7y [(.r 2)]),jn (.bin false .and (.r 1) (.r 3)),q73_ 4 0,q2 2 5])
 .ret)),
 [.v 2]⟩
def wc9:IFun:=⟨[0,1,2,3,5,10,11,12,13],
 (.seq (jr [q44_ 1 2 0,q48_ 2 0 3])
 (.seq (jr [q3 0 1,q1 1 0,jn (.build [(.int .i64 0),(.nil false 3)] [(0,1,(.r 1))]),q48_ 3 0 3,q6 2 3 2])
 (.seq (.seq (jr [q3 1 1,qs 5 1 0,qn 6 5,qg 7 0])
 (.block 0 (.loop [false,false,true,true,false,true,true,true,false] (.seq (jr [q7 8 7 6])
 (.seq (.cond (.v 8) .skip (.exit 0))
 (.seq (.block 1 (.seq (jr [qi 3 5 7,qj 3 0,q9 4 1 1 1,q6 3 4 1])
 (.region true [(8,1),(8,5),(8,7),(9,1),(9,7),(10,1),(12,1)] [q3 1 3,q1 1 0,q3 0 4,q1 1 2,q3 1 4,q1 1 4,q3 2 4,q1 1 6,q77_ 3,q77_ 5,q77_ 7,jn (.build [(.nil true 1),(.nil true 1),(.nil true 1)] [(0,1,(.r 8)),(1,1,(.r 9)),(2,1,(.r 10))]),q65_ 3 11,q51_ 3 1 12,q3 1 3,qr 1 14 13])))
 (jr [q8 7 1,q2 7 0])))))))
 (.seq (jr [qb 2 3,q6 2 2 0])
 .ret)))),
 [.cell true 2 2]⟩
def wcz:IFun:=⟨[0,2,3,4,8,15],
 (.seq (jr [qp 1 1])
 (.seq (jr [qp 2 1])
 (.seq (.seq (jr [qg 3 0])
 (.block 0 (.loop [true,false,true,true,false,false] (.seq (.seq (jr [q0 0,q0 3,jn (.bin false .shr (.r 0) (.r 1)),js 4 (.bin false .neq (.r 2) (jc 0))])
 (.cond (.v 4) .skip (.exit 0)))
 (.seq (.block 1 (.seq (jr [q0 0,q0 3,jn (.bin false .shr (.r 0) (.r 1)),jn (.bin false .and (.r 2) (jc 1)),js 5 (.bin false .eql (.r 3) (jc 1))])
 (.cond (.v 5) (jr [q0 2,q0 3,qq 1 1,qx 1 0 2,q2 2 3]) .skip)))
 (jr [q0 3,qt 0 1,q2 3 1]))))))
 (.seq (jr [q0 2,q2 1 0])
 .ret)))),
 [.v 1]⟩
def wdi:IFun:=⟨[0,1,2,6,7,16],
 (.seq (jr [js 3 (.nilrow wgz false 3)])
 (.seq (jr [q0 0,q0 1,q0 2,q0 0,qv 3,jn (.chk3 (.r 0) (.r 1) (.r 2) (.r 4))])
 (.seq (.seq (jr [q0 1,q0 2,js 5 (.bin false .eql (.r 0) (.r 1))])
 (.cond (.v 5) (.seq (jr [q0 0,q2 3 0])
 .ret) .skip))
 (.seq (jr [q0 0,qv 0,q2 4 1])
 (.seq (.region true [] [q0 0,q0 1,jn (.slice 3 (.r 0) none (some (.r 1))),q0 0,q0 2,jn (.slice 3 (.r 3) (some (.r 4)) none),q51_ 3 2 5,q2 0 6])
 (.seq (jr [q0 0,q0 0,qv 1,q0 4,jn (.slice 3 (.r 0) (some (.r 2)) (some (.r 3))),jn (.clr (.agg [(.nil true 1),(.nil true 1),(.nil true 1)]) (.r 4))])
 (.seq (jr [q0 0,q2 3 0])
 .ret))))))),
 [.v 3]⟩
def wd7:IFun:=⟨[0,1,2,4,5],
 (.seq (jr [qw 2 4 0,q4 3 0 3 0 0])
 (.seq (jr [q3 0 2,qj 2 0,jn (.call false w7d [(.r 1)]),q48_ 4 0 3,q6 2 4 2])
 (.seq (jr [q3 1 4,q1 1 0,q0 1,q0 1,qt 3 1,jn (.callm w8n [(.r 1),(.r 2),(.r 4)]),q3 1 4,qr 1 6 5])
 (.seq (jr [qb 2 4,q3 2 2,q1 1 1,q3 3 2,q1 1 3,jn (.build [(.int .i64 0),(.nil false 3),(.int .i64 0),(.int .i64 0)] [(0,2,(.r 0)),(2,1,(.r 2)),(3,1,(.r 4))]),q6 4 3 5])
 .ret)))),
 [.cell true 4 3]⟩
def wd5:IFun:=⟨[0,1,3,6],
 (.seq (jr [qg 2 0])
 (.seq (.seq (jr [q0 0,q38_ 1 1,js 3 (.bin false .gtr (.r 0) (.r 1))])
 (.cond (.v 3) (.seq (jr [q0 0,q41_ 0 1,q2 2 1])
 .ret) .skip))
 (.seq (jr [q0 0,q2 2 0])
 .ret))),
 [.v 2]⟩
def wd6:IFun:=⟨[0,1,2,4,5,7,8,9,10,11,16],
 (.seq (jr [qp 3 1])
 (.seq (jr [qp 4 1])
 (.seq (.seq (jr [q59_ 6 0,qn 7 6,qg 8 0])
 (.block 0 (.loop [false,true,true,false,true,false,true,true,true,false,false] (.seq (jr [q7 9 8 7])
 (.seq (.cond (.v 9) .skip (.exit 0))
 (.seq (.block 1 (.seq (jr [qi 1 6 8,q1 1 0,q2 5 1])
 (.seq (jr [q0 5,q38_ 1 1,q49_ 10 0 1])
 (.cond (.v 10) (jr [q0 4,q38_ 1 2,q0 5,q76_ 1 2,qq 1 3,qx 1 0 4,q2 4 5]) .skip))))
 (jr [q8 8 1,q2 8 0])))))))
 (.seq (jr [q0 4,q2 3 0])
 .ret)))),
 [.v 3]⟩
def wd4:IFun:=⟨[0,1,2,3,4,5,6,7,9,19,20,21,22],
 (.seq (jr [qw 2 4 0,js 3 (.box t_int 1 (.v 1)),q4 4 0 3 0 0])
 (.seq (jr [jn (.mkfn w89 [(.v 3)]),js 5 (.alloc wh4 [.nilf]),q36_ 1 5 0])
 (.seq (jr [jn (.mkfn w8a [(.v 3),(.v 5)]),q2 6 0])
 (.seq (jr [q3 0 2,qc 0 0,q1 1 1,q41_ 2 1,jn (.build [(.int .i64 0),(.nil false 3)] [(0,1,(.r 3))]),q48_ 7 0 3,q36_ 2 7 4])
 (.seq (.seq (jr [q3 0 2,qc 1 0,qs 9 1 1,qn 10 9,qg 11 0])
 (.block 0 (.loop [false,false,true,false,true,true,true,true,false,true,true,true,false] (.seq (jr [q7 12 11 10])
 (.seq (.cond (.v 12) .skip (.exit 0))
 (.seq (.block 1 (.seq (jr [qi 3 9 11,qj 3 0,q9 8 1 1 1,q36_ 3 8 1])
 (.region true [(11,1),(11,7),(11,10),(12,1),(12,10),(13,1),(15,1)] [q3 1 7,q1 1 0,q0 6,q3 0 8,q1 1 3,q0 6,q3 1 8,q1 1 6,q0 6,q3 2 8,q1 1 9,q76_ 2 4,q76_ 5 7,q76_ 8 10,jn (.build [(.nil true 1),(.nil true 1),(.nil true 1)] [(0,1,(.r 11)),(1,1,(.r 12)),(2,1,(.r 13))]),jn (.bsl wgz 3 [(.r 14)]),jn (.appl wgz false 3 (.r 1) (.r 15)),q3 1 7,jn (.stl 1 (.r 17) (.r 16))])))
 (jr [q8 11 1,q2 11 0])))))))
 (.seq (.region true [(7,0),(7,4),(7,6),(8,0)] [qb 2 7,q38_ 1 5,q3 2 2,q1 1 2,q38_ 1 5,q3 3 2,q1 1 5,q76_ 1 3,q76_ 4 6,jn (.build [(.int .i64 0),(.nil false 3),(.int .i64 0),(.int .i64 0)] [(0,2,(.r 0)),(2,1,(.r 7)),(3,1,(.r 8))]),q36_ 4 4 9])
 .ret)))))),
 [.cell true 4 4]⟩
def wck:IFun:=⟨[0,1,2,3,4,5,6,7,8,9,12,13,14,46,79],
 (.seq (jr [qw 1 4 0,q4 2 0 3 0 0,q5 3])
 (.seq (.seq (jr [q3 0 1,qc 0 0,qs 10 1 1,qg 11 0])
 (.block 0 (.loop [false,true,true,false,false,false,false,false,false,false,true,true,false,false,false] (.seq (jr [q7 12 11 10])
 (.seq (.cond (.v 12) .skip (.exit 0))
 (.seq (.block 1 (.seq (jr [q0 11,q2 4 0])
 (.seq (.region true [(6,4)] [q3 0 1,qj 2 0,q0 4,q3 0 1,qj 2 3,q0 4,jn (.call false w86 [(.r 1),(.r 2),(.c (.bool true))]),jn (.call false w86 [(.r 4),(.r 5),(.c (.bool false))]),q2 5 6,q2 6 7])
 (.seq (.seq (.region true [] [qb 4 1,q0 4,jn (.call false w7v [(.r 0),(.r 1)]),q71_ 2,qe 3,qz 4 5,q46_ 4 5,q63_ 4 6 1,qf 4 7,qe 8,qz 9 6,q46_ 9 10,q63_ 9 11 1,qf 9 12,qe 13,qz 14 5,q75_ 14 1 15 0,qd 14 1 16,qz 14 6,q75_ 14 1 18 0,qd 14 1 19,q57_ 14 17 20,qk 13 14 21])
 (.cond (.v 13) (.exit 1) .skip))
 (.seq (.region true [(18,10),(18,13),(18,15)] [q3 0 1,qc 1 0,q1 1 1,q0 5,q53_ 1 3 0,q1 1 4,qa 3 2 5,qj 3 6,q3 0 1,qc 1 8,q1 1 9,q0 6,q53_ 1 11 0,q1 1 12,qa 3 10 13,qj 3 14,q9 7 1 1 1,q9 8 1 1 1,q36_ 3 7 7,q36_ 3 8 15])
 (.seq (.seq (jr [q3 0 8,q1 1 0,qv 1,q73_ 2 1,qe 3,ql 4 1 8,qd 4 1 5,q46_ 4 6,jf 4 (.bin false .eql (.r 7) (jc 0)),qf 4 8,qe 9,ql 10 1 7,qd 10 1 11,ql 10 1 8,qd 10 1 13,jf 10 (.call false w7z [(.r 12),(.r 14)]),qk 14 10 15])
 (.cond (.v 14) (.exit 1) .skip))
 (.seq (.region true [(7,3),(7,5)] [q3 0 1,qj 2 0,q3 2 1,q1 1 2,q3 3 1,q1 1 4,q4 9 0 3 0 0,jn (.call false w7d [(.r 1)]),jn (.build [(.int .i64 0),(.nil false 3),(.int .i64 0),(.int .i64 0)] [(0,2,(.r 7)),(2,1,(.r 3)),(3,1,(.r 5))]),q36_ 4 9 8])
 (.seq (.region true [(12,2),(12,5),(12,11),(14,2),(14,5),(16,2),(16,5)] [q3 0 9,qc 1 0,q1 1 1,q0 5,q53_ 1 3 0,q1 1 4,q3 1 7,q1 1 6,q0 4,jn (.bin false .shl (jc 1) (.r 8)),q3 1 8,q1 1 10,jn (.call false w7y [(.r 7)]),jn (.bin false .andNot (.r 12) (.r 9)),jn (.call false w7y [(.r 11)]),jn (.bin false .or (.r 13) (.r 14)),jn (.call false w83 [(.r 15)]),qa 3 2 5,qc 1 17,jn (.stl 1 (.r 18) (.r 16))])
 (.seq (.region true [] [qb 4 9,q0 6,q53_ 1 1 0,q1 1 2,q0 4,jn (.call false w8b [(.r 0),(.r 3)]),jn (.call false w88 [(.r 5),(.r 4)]),q36_ 4 2 6,qu 3])
 .ret)))))))))
 (jr [q8 11 1,q2 11 0])))))))
 (.seq (jr [qh 0 3 0 0,q36_ 4 2 0,q5 3])
 .ret))),
 [.cell true 4 2,.v 3]⟩
def wbt:IFun:=⟨[0,1,2,3,6],
 (.seq (jr [qw 1 4 0,q4 2 0 3 0 0,q5 3])
 (.seq (.seq (jr [qb 4 1,jn (.call false w7x [(.r 0)]),q68_ 4 1])
 (.cond (.v 4) (.seq (jr [qh 0 3 0 0,q36_ 4 2 0,q5 3])
 .ret) .skip))
 (.seq (jr [qb 4 1,jn (.call false w7o [(.r 0)]),qm 1 0,qm 1 1,q36_ 4 2 2,q2 3 3])
 .ret))),
 [.cell true 4 2,.v 3]⟩
def wcj:IFun:=⟨[0,1,2,3,4],
 (.seq (jr [js 3 (.box wgz 3 (.v 0)),q5 4])
 (.seq (jr [q3 1 3,q1 1 0,q38_ 1 1,jn (.call false w8m [(.r 1),(.r 2)]),qe 3,q39_ 4 1 3,q37_ 4 1 5,jt 4 (.load false 1 (.v 2)),jt 4 (.call false w8m [(.r 6),(.r 7)]),qo 4 8,q2 4 9])
 .ret)),
 [.v 4]⟩
def wci:IFun:=⟨[0,1,2,3,4,5,6,7,8,9,10,11,14,15,16,17,30,63,69,70,71,72,79],
 (.seq (jr [qw 1 4 0,q4 2 0 3 0 0,q5 3])
 (.seq (.seq (jr [q3 0 1,qc 1 0,qs 12 1 1,qn 13 12,qg 14 0])
 (.block 0 (.loop [false,true,true,false,false,false,false,false,false,false,false,false,true,true,true,false,false,false,false,false,false,false,false] (.seq (jr [q7 15 14 13])
 (.seq (.cond (.v 15) .skip (.exit 0))
 (.seq (.block 1 (.seq (jr [q0 14,qi 3 12 14,qj 3 1,q9 5 1 1 1,q2 4 0,q36_ 3 5 2])
 (.seq (.seq (jr [q3 0 5,q1 1 0,qv 1,q73_ 2 1,qe 3,ql 4 1 5,qd 4 1 5,q46_ 4 6,q63_ 4 7 1,qk 16 4 8])
 (.cond (.v 16) (.exit 1) .skip))
 (.seq (.region true [(10,5),(10,7)] [q3 0 5,q1 1 0,q53_ 1 1 0,q1 1 2,q3 1 5,q1 1 4,q53_ 1 5 0,q1 1 6,js 6 (.alloc t_int [(.int .i64 0)]),js 7 (.alloc t_int [(.int .i64 0)]),q36_ 1 6 3,q36_ 1 7 7])
 (.seq (jr [q3 0 1,qc 1 0,q1 1 1,jn (.mkfn w7n [(.v 6),(.v 7)]),jn (.call false w8k [(.r 2),(.r 3)]),q2 8 4])
 (.seq (.seq (jr [q38_ 1 6,q3 2 1,q1 1 1,jn (.bin false .eql (.r 0) (.r 2)),qe 3,jf 4 (.load false 1 (.v 6)),jf 4 (.load false 1 (.v 7)),q57_ 4 5 6,qf 4 7,qe 8,ql 9 0 1,jf 9 (.load true 2 (.r 10)),jf 9 (.load false 1 (.v 6)),jf 9 (.call false w86 [(.r 11),(.r 12),(.c (.bool false))]),q46_ 9 13,q63_ 9 14 1,qf 9 15,qe 16,qz 17 8,qk 17 17 18])
 (.cond (.v 17) (.exit 1) .skip))
 (.seq (jr [qb 4 1,q0 4,jn (.call false w8b [(.r 0),(.r 1)]),q4 9 0 3 0 0,q36_ 4 9 2])
 (.seq (.seq (jr [q3 0 9,qc 1 0,qs 18 1 1,qn 19 18,qg 20 0])
 (.block 2 (.loop [false,false,true,false,false,false,true,true,false,true,false,false,false,false,false,false,false,false,true,true,true,false,false] (.seq (jr [q7 21 20 19])
 (.seq (.cond (.v 21) .skip (.exit 2))
 (.seq (.block 3 (.seq (jr [q0 20,qi 3 18 20,qj 3 1,q9 11 1 1 1,q2 10 0,q36_ 3 11 2])
 (.seq (jr [q3 1 11,q1 1 0,q38_ 1 6,js 22 (.call false w8m [(.r 1),(.r 2)])])
 (.cond (.v 22) (.region true [(10,2),(10,6),(10,8),(13,2)] [q3 0 9,qc 1 0,q1 1 1,q0 10,q3 1 11,q1 1 4,q38_ 1 6,jn (.bin false .shl (jc 1) (.r 6)),q38_ 1 7,jn (.bin false .shl (jc 1) (.r 8)),jn (.call false w7y [(.r 5)]),jn (.bin false .andNot (.r 10) (.r 7)),jn (.bin false .or (.r 11) (.r 9)),jn (.call false w83 [(.r 12)]),qa 3 2 3,qc 1 14,jn (.stl 1 (.r 15) (.r 13))]) .skip))))
 (jr [q8 20 1,q2 20 0])))))))
 (.seq (jr [qb 4 9,q38_ 1 6,jn (.call false w88 [(.r 0),(.r 1)]),q36_ 4 2 2,qu 3])
 .ret)))))))))
 (jr [q8 14 1,q2 14 0])))))))
 (.seq (jr [qh 0 3 0 0,q36_ 4 2 0,q5 3])
 .ret))),
 [.cell true 4 2,.v 3]⟩
def wbs:IFun:=⟨[0,1,2,3,6],
 (.seq (jr [qw 1 4 0,q4 2 0 3 0 0,q5 3])
 (.seq (.seq (jr [qb 4 1,jn (.call false w7x [(.r 0)]),q68_ 4 1])
 (.cond (.v 4) (.seq (jr [qh 0 3 0 0,q36_ 4 2 0,q5 3])
 .ret) .skip))
 (.seq (jr [qb 4 1,jn (.call false w7m [(.r 0)]),qm 1 0,qm 1 1,q36_ 4 2 2,q2 3 3])
 .ret))),
 [.cell true 4 2,.v 3]⟩
def weg:IFun:=⟨[0,1,4,6,7,8,9,10,15],
 (.seq (jr [q5 2])
 (.seq (.seq (jr [q59_ 4 0,qn 5 4,qg 6 0])
 (.block 0 (.loop [false,true,false,false,true,true,true,false,false] (.seq (jr [q7 7 6 5])
 (.seq (.cond (.v 7) .skip (.exit 0))
 (.seq (.block 1 (.seq (jr [qi 1 4 6,q1 1 0,q2 3 1])
 (.seq (jr [q0 3,q0 1,js 8 (.bin false .eql (.r 0) (.r 1))])
 (.cond (.v 8) (.seq (jr [qu 2])
 .ret) .skip))))
 (jr [q8 6 1,q2 6 0])))))))
 (.seq (jr [q5 2])
 .ret))),
 [.v 2]⟩
def wdr:IFun:=⟨[0,2,3,4,5,6,7,27,35,36,37,38,45,61],
 (.seq (jr [q4 1 0 3 0 0])
 (.seq (jr [q0 0,q67_ 1 0 0 0 1 0,jn (.box wh3 3 (.r 1)),q2 2 2])
 (.seq (jr [q0 2,jn (.callm w9f [(.r 0),(.c (.bool false))]),q4 3 0 3 0 0,q6 4 3 1])
 (.seq (.seq (jr [q3 0 3,qc 0 0,q1 1 1,jn (.bin false .lss (.r 2) (jc 14)),qe 3,qy 4 2,jt 4 (.callm w9i [(.r 5),(jc 2)]),qo 4 6,qe 7,q39_ 8 0 3,jt 8 (.faddr 1 (.r 9)),q37_ 8 1 10,jt 8 (.len false (.r 11)),jt 8 (.bin false .gtr (.r 12) (jc 0)),q43_ 7 8 13])
 (.cond (.v 7) (.seq (jr [q0 2,q3 0 3,qc 0 1,q1 1 2,q50_ 0 3,q2 4 4])
 (.seq (.seq (jr [q3 0 3,qc 1 0,qs 8 1 1,qn 9 8,qg 10 0])
 (.block 0 (.loop [false,true,false,true,true,false,false,false,true,true,true,false,false,false] (.seq (jr [q7 11 10 9])
 (.seq (.cond (.v 11) .skip (.exit 0))
 (.seq (.block 1 (.seq (jr [q0 10,qi 3 8 10,qj 3 1,q9 6 1 1 1,q2 5 0,q6 3 6 2])
 (.seq (.seq (jr [q3 0 6,q1 1 0,q0 4,q66_ 12 1 2])
 (.cond (.v 12) (.region true [(9,2)] [q3 0 3,qc 1 0,q1 1 1,q0 5,q3 0 6,q1 1 4,q3 0 3,qc 0 6,q1 1 7,q69_ 5 8,qa 3 2 3,qc 0 10,qr 1 11 9]) .skip))
 (.seq (jr [q3 1 6,q1 1 0,q0 4,q66_ 13 1 2])
 (.cond (.v 13) (.region true [(9,2)] [q3 0 3,qc 1 0,q1 1 1,q0 5,q3 1 6,q1 1 4,q3 0 3,qc 0 6,q1 1 7,q69_ 5 8,qa 3 2 3,qc 1 10,qr 1 11 9]) .skip)))))
 (jr [q8 10 1,q2 10 0])))))))
 (jr [q3 0 3,qc 0 0,q1 1 1,qt 2 1,q3 0 3,qc 0 4,qr 1 5 3]))) .skip))
 (.seq (jr [qb 4 3,q6 4 1 0])
 .ret))))),
 [.cell true 4 1]⟩
def wdj:IFun:=⟨[0,1,4,5,10,12,13,14,24],
 (.seq (jr [q5 2])
 (.seq (.seq (jr [q0 0,qv 0,q0 1,qv 2,q49_ 4 1 3])
 (.cond (.v 4) (.seq (jr [q5 2])
 .ret) .skip))
 (.seq (.seq (jr [q0 0,q60_ 5 0,qg 6 0])
 (.block 0 (.loop [true,true,false,false,false,true,true,false,false] (.seq (jr [q7 7 6 5])
 (.seq (.cond (.v 7) .skip (.exit 0))
 (.seq (.block 1 (.seq (jr [q0 6,q2 3 0])
 (.seq (.region true [] [q0 0,q0 3,qa 1 0 1,q1 1 2,q0 1,q0 3,qa 1 4 5,q1 1 6,q49_ 8 3 7])
 (.cond (.v 8) (.seq (jr [q5 2])
 .ret) .skip))))
 (jr [q8 6 1,q2 6 0])))))))
 (.seq (jr [qu 2])
 .ret)))),
 [.v 2]⟩
def wcb:IFun:=⟨[0,1,2,3,4,5,8,9,10,12,13,14,45],
 (.seq (jr [qw 1 4 0,q4 2 0 3 0 0,q5 3])
 (.seq (.seq (jr [q3 0 1,qc 0 0,qs 6 1 1,qg 7 0])
 (.block 0 (.loop [false,true,true,false,false,false,true,true,false,false,false,false,false] (.seq (jr [q7 8 7 6])
 (.seq (.cond (.v 8) .skip (.exit 0))
 (.seq (.block 1 (.seq (jr [q0 7,q2 4 0])
 (.seq (jr [q59_ 9 4,qg 10 0])
 (.block 2 (.loop [false,true,true,false,true,false,true,true,false,true,true,false,false] (.seq (jr [q7 11 10 9])
 (.seq (.cond (.v 11) .skip (.exit 2))
 (.seq (.block 3 (.seq (jr [q0 10,q2 5 0])
 (.seq (.region true [(15,13),(26,24)] [qb 4 1,q0 5,jn (.call false w7v [(.r 0),(.r 1)]),qe 2,jt 3 (.load true 4 (.v 1)),qy 3 4,jt 3 (.call false w7v [(.r 4),(.r 5)]),qo 3 6,qe 7,q39_ 8 0 1,q64_ 8 2 9,qy 8 5,q39_ 8 0 1,q64_ 8 2 12,qy 8 4,jt 8 (.call false w86 [(.r 10),(.r 11),(.c (.bool true))]),jt 8 (.call false w86 [(.r 13),(.r 14),(.c (.bool true))]),jt 8 (.call false w8o [(.r 15),(.r 16)]),qo 8 17,qe 18,q39_ 19 0 1,q64_ 19 2 20,qy 19 5,q39_ 19 0 1,q64_ 19 2 23,qy 19 4,jt 19 (.call false w86 [(.r 21),(.r 22),(.c (.bool false))]),jt 19 (.call false w86 [(.r 24),(.r 25),(.c (.bool false))]),jt 19 (.call false w8o [(.r 26),(.r 27)]),q43_ 12 19 28])
 (.cond (.v 12) (.seq (jr [qb 4 1,q0 4,jn (.call false w88 [(.r 0),(.r 1)]),q36_ 4 2 2,qu 3])
 .ret) .skip))))
 (jr [q8 10 1,q2 10 0])))))))))
 (jr [q8 7 1,q2 7 0])))))))
 (.seq (jr [qh 0 3 0 0,q36_ 4 2 0,q5 3])
 .ret))),
 [.cell true 4 2,.v 3]⟩
def wbq:IFun:=⟨[0,1,2,3,6],
 (.seq (jr [qw 1 4 0,q4 2 0 3 0 0,q5 3])
 (.seq (.seq (jr [qb 4 1,jn (.call false w7x [(.r 0)]),q68_ 4 1])
 (.cond (.v 4) (.seq (jr [qh 0 3 0 0,q36_ 4 2 0,q5 3])
 .ret) .skip))
 (.seq (jr [qb 4 1,jn (.call false w7f [(.r 0)]),qm 1 0,qm 1 1,q36_ 4 2 2,q2 3 3])
 .ret))),
 [.cell true 4 2,.v 3]⟩
def wds:IFun:=⟨[0,2,3,4,18],
 (.seq (jr [q4 1 0 3 0 0])
 (.seq (jr [q0 0,q67_ 1 0 0 0 1 0,jn (.box wh3 3 (.r 1)),q2 2 2])
 (.seq (jr [q0 2,jn (.callm w9f [(.r 0),(.c (.bool false))]),q4 3 0 3 0 0,q6 4 3 1])
 (.seq (.seq (jr [q3 0 3,qc 1 0,q1 1 1,qv 2,jn (.bin false .lss (.r 3) (jc 20)),qe 4,qy 5 2,jt 5 (.callm w9i [(.r 6),(jc 2)]),q43_ 4 5 7])
 (.cond (.v 4) (.region true [(11,2),(11,5),(14,2)] [q3 0 3,qc 1 0,q1 1 1,q3 0 3,qc 1 3,q1 1 4,q0 2,q3 0 3,qc 1 7,q1 1 8,qv 9,q50_ 6 10,qa 3 5 11,qj 3 12,q65_ 3 13,q51_ 3 2 14,q3 0 3,qc 1 16,qr 1 17 15]) .skip))
 (.seq (jr [qb 4 3,q6 4 1 0])
 .ret))))),
 [.cell true 4 1]⟩
def wcd:IFun:=⟨[0,1,2,3],
 (.seq (jr [js 2 (.box wgz 3 (.v 0)),q5 3])
 (.seq (jr [q3 0 1,q1 1 0,q3 0 2,q1 1 2,jn (.call false w8o [(.r 1),(.r 3)]),qe 4,q39_ 5 1 1,q37_ 5 1 6,q39_ 5 1 2,q37_ 5 1 8,jt 5 (.call false w8o [(.r 7),(.r 9)]),qo 5 10,q2 3 11])
 .ret)),
 [.v 3]⟩
def wcc:IFun:=⟨[0,1,2,3,4,5,8,9,10,11,21],
 (.seq (jr [qw 1 4 0,q4 2 0 3 0 0,q5 3])
 (.seq (.seq (jr [q3 0 1,qc 1 0,qs 6 1 1,qn 7 6,qg 8 0])
 (.block 0 (.loop [false,true,true,false,false,false,true,true,true,false,false] (.seq (jr [q7 9 8 7])
 (.seq (.cond (.v 9) .skip (.exit 0))
 (.seq (.block 1 (.seq (jr [q0 8,qi 3 6 8,qj 3 1,q9 5 1 1 1,q2 4 0,q6 3 5 2])
 (.seq (jr [q3 0 1,qc 1 0,q1 1 1,q0 4,jn (.slice 3 (.r 2) none (some (.r 3))),jn (.mkfn w7h [(.v 5)]),js 10 (.call false w8k [(.r 4),(.r 5)])])
 (.cond (.v 10) (.seq (jr [qb 4 1,q0 4,jn (.call false w8b [(.r 0),(.r 1)]),q6 4 2 2,qu 3])
 .ret) .skip))))
 (jr [q8 8 1,q2 8 0])))))))
 (.seq (jr [qh 0 3 0 0,q6 4 2 0,q5 3])
 .ret))),
 [.cell true 4 2,.v 3]⟩
def wbr:IFun:=⟨[0,1,2,3,6],
 (.seq (jr [qw 1 4 0,q4 2 0 3 0 0,q5 3])
 (.seq (.seq (jr [qb 4 1,jn (.call false w7x [(.r 0)]),q68_ 4 1])
 (.cond (.v 4) (.seq (jr [qh 0 3 0 0,q6 4 2 0,q5 3])
 .ret) .skip))
 (.seq (jr [qb 4 1,jn (.call false w7g [(.r 0)]),qm 1 0,qm 1 1,q6 4 2 2,q2 3 3])
 .ret))),
 [.cell true 4 2,.v 3]⟩
def weh:IFun:=⟨[0,1,2,6],
 (.seq (jr [q5 3])
 (.seq (jr [q0 0,q0 1,jn (.bin false .geq (.r 0) (.r 1)),qe 2,qy 3 0,qy 3 2,jt 3 (.bin false .leq (.r 4) (.r 5)),qo 3 6,q2 3 7])
 .ret)),
 [.v 3]⟩
def wej:IFun:=⟨[0,2],
 (.seq (jr [q5 1])
 (.seq (jr [q0 0,jn (.call false w9m [(.r 0),(jc 1),(jc 16)]),q2 1 1])
 .ret)),
 [.v 1]⟩
def wel:IFun:=⟨[0,1,2,6,7,8,9,10,11,12,33],
 (.seq (jr [q5 3])
 (.seq (.seq (jr [q59_ 6 0,qn 7 6,qg 8 0])
 (.block 0 (.loop [true,true,true,false,false,false,true,true,true,false,false] (.seq (jr [q7 9 8 7])
 (.seq (.cond (.v 9) .skip (.exit 0))
 (.seq (.block 1 (.seq (jr [q0 8,qi 1 6 8,q1 1 1,q2 4 0,q2 5 2])
 (.seq (jr [q0 5,q0 1,q0 2,jn (.call false w9m [(.r 0),(.r 1),(.r 2)]),q71_ 3,qe 4,qz 5 4,jf 5 (.bin false .gtr (.r 6) (jc 0)),jf 5 (.mov (.r 7)),qy 8 0,qy 8 4,jt 8 (.bin false .sub (.r 10) (jc 1)),jt 8 (.iaddr 1 (.r 9) (.r 11)),q37_ 8 1 12,qy 8 5,jt 8 (.bin false .geq (.r 13) (.r 14)),jf 5 (.pick (.r 8) (.r 15) (.c (.bool false))),qk 10 5 16])
 (.cond (.v 10) (.seq (jr [q5 3])
 .ret) .skip))))
 (jr [q8 8 1,q2 8 0])))))))
 (.seq (jr [qu 3])
 .ret))),
 [.v 3]⟩
def wdz:IFun:=⟨[0,1,2,4,14,16,17,18,19,52],
 (.seq (jr [q44_ 1 2 0,q5 2])
 (.seq (.seq (jr [q3 0 1,q1 1 0,jn (.call false w9o [(.r 1)]),q71_ 2,qe 3,ql 4 1 1,qd 4 1 5,q46_ 4 6,jf 4 (.bin false .gtr (.r 7) (jc 24)),qk 4 4 8])
 (.cond (.v 4) (.seq (jr [q5 2])
 .ret) .skip))
 (.seq (.seq (jr [q3 1 1,qs 5 1 0,qn 6 5,qg 7 0])
 (.block 0 (.loop [false,true,false,false,false,true,true,true,false,false] (.seq (jr [q7 8 7 6])
 (.seq (.cond (.v 8) .skip (.exit 0))
 (.seq (.block 1 (.seq (jr [qi 3 5 7,qj 3 0,q9 3 1 1 1,q6 3 3 1])
 (.seq (jr [q3 0 3,q1 1 0,qv 1,q72_ 2 0,qe 3,ql 4 0 3,qd 4 1 5,ql 4 0 1,qd 4 1 7,q62_ 4 8 1,jf 4 (.call false w9q [(.r 6),(jc 0),(.r 9)]),q54_ 4 10,qf 4 11,qe 12,ql 13 1 3,qd 13 1 14,ql 13 0 1,qd 13 1 16,q62_ 13 17 1,jf 13 (.call false w9q [(.r 15),(jc 0),(.r 18)]),q54_ 13 19,qf 13 20,qe 21,ql 22 2 3,qd 22 1 23,ql 22 0 1,qd 22 1 25,q62_ 22 26 1,jf 22 (.call false w9q [(.r 24),(jc 0),(.r 27)]),q54_ 22 28,qk 9 22 29])
 (.cond (.v 9) (.seq (jr [q5 2])
 .ret) .skip))))
 (jr [q8 7 1,q2 7 0])))))))
 (.seq (jr [qu 2])
 .ret)))),
 [.v 2]⟩
def wet:IFun:=⟨[0,1,2,4,5,6,7,8,9,10,11,13,15,26,28,29,30,31,36,37,38,39,57,62,63,64,65],
 (.seq (jr [q44_ 2 2 0,q78_ 3 1,q78_ 4 1])
 (.seq (jr [q3 0 2,q1 1 0,q56_ 1 1,q2 5 2])
 (.seq (jr [q3 1 2,q1 1 0,qv 1,q56_ 1 2,q2 6 3])
 (.seq (jr [q0 5,q0 1,qa 1 0 1,q52_ 1 2])
 (.seq (.seq (jr [qu 7])
 (.block 0 (.loop [false,false,true,false,false,true,true,true,false,false,false,false,false,false,false,false,false,false,false,false,false,false,false,false,false,false,false] (.seq (.seq (jr [q59_ 13 7])
 (.cond (.v 13) .skip (.exit 0)))
 (.block 1 (.seq (jr [q5 7])
 (.seq (jr [q3 1 2,qs 14 1 0,qn 15 14,qg 16 0])
 (.block 2 (.loop [false,false,true,false,false,true,true,true,false,false,false,false,false,false,true,true,true,false,false,false,false,false,false,false,false,false,false] (.seq (jr [q7 17 16 15])
 (.seq (.cond (.v 17) .skip (.exit 2))
 (.seq (.block 3 (.seq (jr [q0 16,qi 3 14 16,qj 3 1,q9 9 1 1 1,q2 8 0,q6 3 9 2])
 (.seq (jr [q5 10])
 (.seq (.seq (jr [q3 0 9,qs 18 1 0,qn 19 18,qg 20 0])
 (.block 4 (.loop [false,false,true,false,false,true,true,true,true,true,true,false,false,false,true,true,true,false,true,true,true,false,false,false,false,false,false] (.seq (jr [q7 21 20 19])
 (.seq (.cond (.v 21) .skip (.exit 4))
 (.seq (.block 5 (.seq (jr [qi 1 18 20,q1 1 0,q2 11 1])
 (jr [q0 10,qe 0,qz 1 5,qz 1 11,jf 1 (.iaddr 1 (.r 2) (.r 3)),qd 1 1 4,qf 1 5,q2 10 6])))
 (jr [q8 20 1,q2 20 0])))))))
 (.seq (.seq (jr [q0 10,q71_ 0,qe 1,qz 2 6,qz 2 8,jf 2 (.iaddr 1 (.r 3) (.r 4)),qd 2 1 5,qk 22 2 6])
 (.cond (.v 22) (.exit 3) .skip))
 (.seq (jr [q0 6,q0 8,qa 1 0 1,q52_ 1 2])
 (.seq (jr [qu 7])
 (.seq (jr [q3 1 9,qs 23 1 0,qn 24 23,qg 25 0])
 (.block 6 (.loop [false,false,true,false,false,true,true,true,false,false,false,false,false,false,true,true,true,false,false,false,false,false,false,true,true,true,false] (.seq (jr [q7 26 25 24])
 (.seq (.cond (.v 26) .skip (.exit 6))
 (.seq (.block 7 (.seq (jr [qi 1 23 25,q1 1 0,q2 12 1])
 (jr [q0 5,q0 12,qa 1 0 1,q52_ 1 2])))
 (jr [q8 25 1,q2 25 0]))))))))))))))
 (jr [q8 16 1,q2 16 0])))))))))))))
 (.seq (jr [q0 5,q0 6,q2 3 0,q2 4 1])
 .ret)))))),
 [.v 3,.v 4]⟩
def wer:IFun:=⟨[0,1,2,4,5,6,7,8,9,10,11,13,15,26,28,29,30,31,36,37,38,39,57,62,63,64,65],
 (.seq (jr [q44_ 2 2 0,q78_ 3 1,q78_ 4 1])
 (.seq (jr [q3 0 2,q1 1 0,q56_ 1 1,q2 5 2])
 (.seq (jr [q3 1 2,q1 1 0,qv 1,q56_ 1 2,q2 6 3])
 (.seq (jr [q0 5,q0 1,qa 1 0 1,q52_ 1 2])
 (.seq (.seq (jr [qu 7])
 (.block 0 (.loop [false,false,true,false,false,true,true,true,false,false,false,false,false,false,false,false,false,false,false,false,false,false,false,false,false,false,false] (.seq (.seq (jr [q59_ 13 7])
 (.cond (.v 13) .skip (.exit 0)))
 (.block 1 (.seq (jr [q5 7])
 (.seq (jr [q3 1 2,qs 14 1 0,qn 15 14,qg 16 0])
 (.block 2 (.loop [false,false,true,false,false,true,true,true,false,false,false,false,false,false,true,true,true,false,false,false,false,false,false,false,false,false,false] (.seq (jr [q7 17 16 15])
 (.seq (.cond (.v 17) .skip (.exit 2))
 (.seq (.block 3 (.seq (jr [q0 16,qi 3 14 16,qj 3 1,q9 9 1 1 1,q2 8 0,q6 3 9 2])
 (.seq (jr [q5 10])
 (.seq (.seq (jr [q3 1 9,qs 18 1 0,qn 19 18,qg 20 0])
 (.block 4 (.loop [false,false,true,false,false,true,true,true,true,true,true,false,false,false,true,true,true,false,true,true,true,false,false,false,false,false,false] (.seq (jr [q7 21 20 19])
 (.seq (.cond (.v 21) .skip (.exit 4))
 (.seq (.block 5 (.seq (jr [qi 1 18 20,q1 1 0,q2 11 1])
 (jr [q0 10,qe 0,qz 1 5,qz 1 11,jf 1 (.iaddr 1 (.r 2) (.r 3)),qd 1 1 4,qf 1 5,q2 10 6])))
 (jr [q8 20 1,q2 20 0])))))))
 (.seq (.seq (jr [q0 10,q71_ 0,qe 1,qz 2 6,qz 2 8,jf 2 (.iaddr 1 (.r 3) (.r 4)),qd 2 1 5,qk 22 2 6])
 (.cond (.v 22) (.exit 3) .skip))
 (.seq (jr [q0 6,q0 8,qa 1 0 1,q52_ 1 2])
 (.seq (jr [qu 7])
 (.seq (jr [q3 0 9,qs 23 1 0,qn 24 23,qg 25 0])
 (.block 6 (.loop [false,false,true,false,false,true,true,true,false,false,false,false,false,false,true,true,true,false,false,false,false,false,false,true,true,true,false] (.seq (jr [q7 26 25 24])
 (.seq (.cond (.v 26) .skip (.exit 6))
 (.seq (.block 7 (.seq (jr [qi 1 23 25,q1 1 0,q2 12 1])
 (jr [q0 5,q0 12,qa 1 0 1,q52_ 1 2])))
 (jr [q8 25 1,q2 25 0]))))))))))))))
 (jr [q8 16 1,q2 16 0])))))))))))))
 (.seq (jr [q0 5,q0 6,q2 3 0,q2 4 1])
 .ret)))))),
 [.v 3,.v 4]⟩
def wes:IFun:=⟨[0,1,4,5,6,8,9,10,21],
 (.seq (jr [qp 2 1])
 (.seq (jr [qp 3 1])
 (.seq (.seq (jr [q0 0,q60_ 5 0,qg 6 0])
 (.block 0 (.loop [true,true,false,true,false,true,true,false,false] (.seq (jr [q7 7 6 5])
 (.seq (.cond (.v 7) .skip (.exit 0))
 (.seq (.block 1 (.seq (jr [q0 6,q2 4 0])
 (.seq (jr [q0 0,q0 4,qa 1 0 1,q1 1 2,qe 3,qy 4 1,qy 4 4,jt 4 (.iaddr 1 (.r 5) (.r 6)),q37_ 4 1 7,q43_ 8 4 8])
 (.cond (.v 8) (jr [q0 3,q0 4,qq 1 1,qx 1 0 2,q2 3 3]) .skip))))
 (jr [q8 6 1,q2 6 0])))))))
 (.seq (jr [q0 3,q2 2 0])
 .ret)))),
 [.v 2]⟩
def we0:IFun:=⟨[0,1,2,3,6,7,8,9,10,11,12,31],
 (.seq (jr [q44_ 3 2 0,qp 4 1,qp 5 1,q5 6])
 (.seq (.seq (jr [qb 2 3,jn (.call false w94 [(.r 0)]),q71_ 1,qe 2,qz 3 1,ql 3 0 3,qd 3 1 5,q62_ 3 6 1,jf 3 (.call false w9m [(.r 4),(jc 0),(.r 7)]),q54_ 3 8,qf 3 9,qe 10,qz 11 2,ql 11 0 3,qd 11 1 13,q62_ 11 14 1,jf 11 (.call false w9m [(.r 12),(jc 0),(.r 15)]),q54_ 11 16,qk 11 11 17])
 (.cond (.v 11) (.seq (jr [qp 4 1,qp 5 1,q5 6])
 .ret) .skip))
 (.seq (jr [qb 2 3,q0 1,jn (.call false w9y [(.r 0),(.r 1)]),qe 2,qm 3 0,qm 3 1,q2 7 4,q2 8 5])
 (.seq (jr [qb 2 3,q0 2,jn (.call false w9w [(.r 0),(.r 1)]),qe 2,qm 3 0,qm 3 1,q2 9 4,q2 10 5])
 (.seq (jr [q0 7,q0 9,jn (.call false w9x [(.r 0),(.r 1)]),q0 8,q0 10,jn (.call false w9x [(.r 3),(.r 4)]),q2 4 2,q2 5 5,qu 6])
 .ret))))),
 [.v 4,.v 5,.v 6]⟩
def wdy:IFun:=⟨[0,1,2,3,4,5,7,44,47,48,49,50,78],
 (.seq (jr [qw 1 4 0,q5 2])
 (.seq (jr [q3 0 1,qj 2 0,q3 2 1,q1 1 2,q3 3 1,q1 1 4,jn (.call false w95 [(.r 1),(.r 3),(.r 5)]),qe 6,qm 7 0,qm 7 1,qm 7 2,q2 3 8,q2 4 9,q2 5 10])
 (.seq (.seq (jr [q0 5,q71_ 0,qe 1,ql 2 2 1,qd 2 1 3,ql 2 3 1,qd 2 1 5,q57_ 2 4 6,qf 2 7,qe 8,qz 9 3,q46_ 9 10,ql 9 0 1,jf 9 (.faddr 0 (.r 12)),qd 9 1 13,jf 9 (.bin false .neq (.r 11) (.r 14)),qf 9 15,qe 16,qz 17 4,q46_ 17 18,ql 17 0 1,jf 17 (.faddr 1 (.r 20)),qd 17 1 21,q46_ 17 22,jf 17 (.bin false .neq (.r 19) (.r 23)),qk 7 17 24])
 (.cond (.v 7) (.seq (jr [q5 2])
 .ret) .skip))
 (.seq (.seq (jr [q3 0 1,qc 1 0,qs 8 1 1,qn 9 8,qg 10 0])
 (.block 0 (.loop [false,true,false,false,false,false,false,false,true,true,true,false,false] (.seq (jr [q7 11 10 9])
 (.seq (.cond (.v 11) .skip (.exit 0))
 (.seq (.block 1 (.seq (jr [qi 3 8 10,qj 3 0,q9 6 1 1 1,q6 3 6 1])
 (.seq (jr [q3 1 6,q1 1 0,q3 2 1,q1 1 2,jn (.call false w9l [(.r 1),(.r 3)]),qe 4,ql 5 0 6,qd 5 1 6,ql 5 3 1,qd 5 1 8,jf 5 (.call false w9l [(.r 7),(.r 9)]),qf 5 10,qe 11,ql 12 2 6,qd 12 1 13,ql 12 2 1,qd 12 1 15,jf 12 (.call false w9l [(.r 14),(.r 16)]),qf 12 17,qe 18,ql 19 2 6,qd 19 1 20,ql 19 3 1,qd 19 1 22,jf 19 (.call false w9l [(.r 21),(.r 23)]),qk 12 19 24])
 (.cond (.v 12) (.seq (jr [q5 2])
 .ret) .skip))))
 (jr [q8 10 1,q2 10 0])))))))
 (.seq (jr [qu 2])
 .ret))))),
 [.v 2]⟩
def wep:IFun:=⟨[0,1,2,4,6,7,8,9,15],
 (.seq (jr [q44_ 1 2 0,q5 2])
 (.seq (.seq (jr [q3 1 1,qs 4 1 0,qn 5 4,qg 6 0])
 (.block 0 (.loop [false,false,false,false,true,true,true,false,false] (.seq (jr [q7 7 6 5])
 (.seq (.cond (.v 7) .skip (.exit 0))
 (.seq (.block 1 (.seq (jr [qi 3 4 6,qj 3 0,q9 3 1 1 1,q6 3 3 1])
 (.seq (jr [q3 2 3,q1 1 0,qv 1,q70_ 8 2 0])
 (.cond (.v 8) (.seq (jr [qu 2])
 .ret) .skip))))
 (jr [q8 6 1,q2 6 0])))))))
 (.seq (jr [q5 2])
 .ret))),
 [.v 2]⟩
def we2:IFun:=⟨[0,1,2],
 (.seq (jr [qw 1 4 0,q5 2])
 (.seq (jr [qb 4 1,jn (.call false w93 [(.r 0)]),qe 1,q39_ 2 0 1,q64_ 2 2 3,jt 2 (.call false w9u [(.r 4)]),jt 2 (.not (.r 5)),qo 2 6,q2 2 7])
 .ret)),
 [.v 2]⟩
def wen:IFun:=⟨[0,1,2,4,5,6,7,9,10,11,12,19],
 (.seq (jr [q44_ 2 2 0,qp 3 1])
 (.seq (jr [qp 4 1])
 (.seq (.seq (jr [q3 1 2,qs 7 1 0,qn 8 7,qg 9 0])
 (.block 0 (.loop [false,true,false,false,true,false,false,true,true,true,false,false] (.seq (jr [q7 10 9 8])
 (.seq (.cond (.v 10) .skip (.exit 0))
 (.seq (.block 1 (.seq (jr [q0 9,qi 3 7 9,qj 3 1,q9 6 1 1 1,q2 5 0,q6 3 6 2])
 (.seq (jr [q3 1 6,q1 1 0,q0 1,q66_ 11 1 2])
 (.cond (.v 11) (jr [q0 4,q0 5,qq 1 1,qx 1 0 2,q2 4 3]) .skip))))
 (jr [q8 9 1,q2 9 0])))))))
 (.seq (jr [q0 4,q2 3 0])
 .ret)))),
 [.v 3]⟩
def weq:IFun:=⟨[0,1,2,4,5,6,7,9,10,11,12,19],
 (.seq (jr [q44_ 2 2 0,qp 3 1])
 (.seq (jr [qp 4 1])
 (.seq (.seq (jr [q3 1 2,qs 7 1 0,qn 8 7,qg 9 0])
 (.block 0 (.loop [false,true,false,false,true,false,false,true,true,true,false,false] (.seq (jr [q7 10 9 8])
 (.seq (.cond (.v 10) .skip (.exit 0))
 (.seq (.block 1 (.seq (jr [q0 9,qi 3 7 9,qj 3 1,q9 6 1 1 1,q2 5 0,q6 3 6 2])
 (.seq (jr [q3 0 6,q1 1 0,q0 1,q66_ 11 1 2])
 (.cond (.v 11) (jr [q0 4,q0 5,qq 1 1,qx 1 0 2,q2 4 3]) .skip))))
 (jr [q8 9 1,q2 9 0])))))))
 (.seq (jr [q0 4,q2 3 0])
 .ret)))),
 [.v 3]⟩
def we7:IFun:=⟨[0,1,2,4],
 (.seq (jr [qw 2 4 0,q5 3])
 (.seq (jr [q0 1,q3 2 2,q1 1 1,jn (.bin false .neq (.r 0) (.r 2)),qe 3,qy 4 1,q39_ 4 3 2,q37_ 4 1 6,jt 4 (.bin false .neq (.r 5) (.r 7)),qo 4 8,q2 3 9])
 .ret)),
 [.v 3]⟩
def weo:IFun:=⟨[0,1,4,6,7,8,9,10,15],
 (.seq (jr [q5 2])
 (.seq (.seq (jr [q59_ 4 0,qn 5 4,qg 6 0])
 (.block 0 (.loop [false,true,false,false,true,true,true,false,false] (.seq (jr [q7 7 6 5])
 (.seq (.cond (.v 7) .skip (.exit 0))
 (.seq (.block 1 (.seq (jr [qi 1 4 6,q1 1 0,q2 3 1])
 (.seq (jr [q0 1,q0 3,q66_ 8 0 1])
 (.cond (.v 8) (.seq (jr [qu 2])
 .ret) .skip))))
 (jr [q8 6 1,q2 6 0])))))))
 (.seq (jr [q5 2])
 .ret))),
 [.v 2]⟩
def wei:IFun:=⟨[0,2],
 (.seq (jr [qp 1 1])
 (.seq (jr [jn (.bslice false t_int true 1 []),q0 0,qx 1 0 1,q2 1 2])
 .ret)),
 [.v 1]⟩
def weu:IFun:=⟨[0,1,2,3,5,10,11,12,13],
 (.seq (jr [q44_ 1 2 0,q48_ 2 0 3])
 (.seq (jr [q3 0 1,q1 1 0,jn (.build [(.int .i64 0),(.nil false 3)] [(0,1,(.r 1))]),q48_ 3 0 3,q6 2 3 2])
 (.seq (.seq (jr [q3 1 1,qs 5 1 0,qn 6 5,qg 7 0])
 (.block 0 (.loop [false,false,true,true,false,true,true,true,false] (.seq (jr [q7 8 7 6])
 (.seq (.cond (.v 8) .skip (.exit 0))
 (.seq (.block 1 (.seq (jr [qi 3 5 7,qj 3 0,q9 4 1 1 1,q6 3 4 1])
 (.region true [(8,1),(8,5),(8,7),(9,1),(9,7),(10,1),(12,1)] [q3 1 3,q1 1 0,q3 0 4,q1 1 2,q3 1 4,q1 1 4,q3 2 4,q1 1 6,jn (.call false w9n [(.r 3)]),jn (.call false w9n [(.r 5)]),jn (.call false w9n [(.r 7)]),jn (.build [(.nil true 1),(.nil true 1),(.nil true 1)] [(0,1,(.r 8)),(1,1,(.r 9)),(2,1,(.r 10))]),q65_ 3 11,q51_ 3 1 12,q3 1 3,qr 1 14 13])))
 (jr [q8 7 1,q2 7 0])))))))
 (.seq (jr [qb 2 3,q6 2 2 0])
 .ret)))),
 [.cell true 2 2]⟩
def wev:IFun:=⟨[0,1,4,5,7,8,9,10,11,17],
 (.seq (jr [qp 2 1])
 (.seq (jr [qp 3 1])
 (.seq (.seq (jr [q59_ 5 0,qn 6 5,qg 7 0])
 (.block 0 (.loop [false,true,false,true,false,true,true,true,false,false] (.seq (jr [q7 8 7 6])
 (.seq (.cond (.v 8) .skip (.exit 0))
 (.seq (.block 1 (.seq (jr [qi 1 5 7,q1 1 0,q2 4 1])
 (.seq (jr [q0 1,q0 4,jn (.call false w9l [(.r 0),(.r 1)]),q68_ 9 2])
 (.cond (.v 9) (jr [q0 3,q0 4,qq 1 1,qx 1 0 2,q2 3 3]) .skip))))
 (jr [q8 7 1,q2 7 0])))))))
 (.seq (jr [q0 3,q2 2 0])
 .ret)))),
 [.v 2]⟩
def we8:IFun:=⟨[0,1,2,3,6,7,8,9,10,11,12,14,16,23,24,25,32,48,49,50,51,57,59,60,61,62,67,79,80,81,82,87],
 (.seq (jr [qw 3 4 0,q4 4 0 3 0 0])
 (.seq (jr [q3 0 3,qc 0 0,q1 1 1,jn (.mk t_int true 1 (.int .i64 0) (.r 2)),q2 5 3])
 (.seq (jr [qh 0 3 0 0,q4 6 0 3 0 0,q6 4 6 0])
 (.seq (.seq (jr [q0 5,q60_ 13 0,qg 14 0])
 (.block 0 (.loop [false,true,true,true,true,true,true,false,false,false,false,false,false,true,true,false,false,false,false,false,false,false,false,false,false,false,false,false,false,false,false,false] (.seq (jr [q7 15 14 13])
 (.seq (.cond (.v 15) .skip (.exit 0))
 (.seq (.block 1 (.seq (jr [q0 14,q2 7 0])
 (.seq (jr [q0 5,q0 7,qa 1 0 1,jn (.store 1 (.r 2) (jc (-1)))])
 (.seq (jr [q0 7,q0 1,q49_ 16 0 1])
 (.cond (.v 16) (.seq (jr [q0 5,q0 7,q3 0 6,qc 0 2,q1 1 3,qa 1 0 1,qr 1 5 4])
 (jr [q3 0 6,qc 0 0,q1 1 1,qt 2 1,q3 0 6,qc 0 4,qr 1 5 3])) .skip)))))
 (jr [q8 14 1,q2 14 0])))))))
 (.seq (.seq (jr [q3 0 3,qc 1 0,qs 17 1 1,qn 18 17,qg 19 0])
 (.block 2 (.loop [false,true,true,true,true,true,true,false,false,false,false,false,false,false,false,false,false,true,true,true,false,false,false,false,false,false,false,false,false,false,false,false] (.seq (jr [q7 20 19 18])
 (.seq (.cond (.v 20) .skip (.exit 2))
 (.seq (.block 3 (.seq (jr [q0 19,qi 3 17 19,qj 3 1,q9 9 1 1 1,q2 8 0,q6 3 9 2])
 (.seq (.seq (jr [q0 8,q0 2,js 21 (.bin false .eql (.r 0) (.r 1))])
 (.cond (.v 21) (.exit 3) .skip))
 (.seq (jr [q9 10 1 1 1])
 (.seq (.seq (jr [q3 0 9,qs 22 1 0,qn 23 22,qg 24 0])
 (.block 4 (.loop [false,true,true,true,true,true,true,false,false,true,true,false,false,false,false,false,false,true,true,true,false,false,true,true,true,false,false,false,false,false,false,false] (.seq (jr [q7 25 24 23])
 (.seq (.cond (.v 25) .skip (.exit 4))
 (.seq (.block 5 (.seq (jr [qi 1 22 24,q1 1 0,q2 11 1])
 (.seq (jr [q0 11,q0 1,q49_ 26 0 1])
 (.cond (.v 26) (.region true [(6,1)] [q3 0 10,q1 1 0,q0 5,q0 11,qa 1 2 3,q1 1 4,qq 1 5,qx 1 1 6,q3 0 10,qr 1 8 7]) .skip))))
 (jr [q8 24 1,q2 24 0])))))))
 (.seq (.seq (jr [q3 1 9,qs 27 1 0,qn 28 27,qg 29 0])
 (.block 6 (.loop [false,true,true,true,true,true,true,false,false,false,true,false,false,false,false,false,false,true,true,true,false,false,false,false,false,false,false,true,true,true,false,false] (.seq (jr [q7 30 29 28])
 (.seq (.cond (.v 30) .skip (.exit 6))
 (.seq (.block 7 (.seq (jr [qi 1 27 29,q1 1 0,q2 12 1])
 (.seq (jr [q0 12,q0 1,q49_ 31 0 1])
 (.cond (.v 31) (.region true [(6,1)] [q3 1 10,q1 1 0,q0 5,q0 12,qa 1 2 3,q1 1 4,qq 1 5,qx 1 1 6,q3 1 10,qr 1 8 7]) .skip))))
 (jr [q8 29 1,q2 29 0])))))))
 (jr [q3 0 6,qc 1 0,q1 1 1,qb 3 10,q65_ 3 3,q51_ 3 2 4,q3 0 6,qc 1 6,qr 1 7 5])))))))
 (jr [q8 19 1,q2 19 0])))))))
 (.seq (jr [q0 5,q3 2 3,q1 1 1,qa 1 0 2,q1 1 3,q3 2 6,qr 1 5 4])
 (.seq (jr [q0 5,q3 3 3,q1 1 1,qa 1 0 2,q1 1 3,q3 3 6,qr 1 5 4])
 (.seq (jr [qb 4 6,q6 4 4 0])
 .ret)))))))),
 [.cell true 4 4]⟩
def we6:IFun:=⟨[0,1,2,3,4,5,6,7,8,9,10,12,17,50,83,98,99,100,101],
 (.seq (jr [qw 1 4 0,q4 2 0 3 0 0,q5 3])
 (.seq (.seq (jr [qg 4 0])
 (.block 0 (.loop [false,true,true,false,true,false,false,false,false,false,false,false,false,false,false,false,false,false,false] (.seq (.seq (jr [q0 4,q3 0 1,qc 0 1,q1 1 2,q55_ 12 0 3])
 (.cond (.v 12) .skip (.exit 0)))
 (.seq (.block 1 (.seq (jr [q3 0 1,qj 2 0,q0 4,jn (.call false w9s [(.r 1),(.r 2)]),q2 5 3])
 (.seq (jr [q3 0 1,qj 2 0,q0 4,jn (.call false w9v [(.r 1),(.r 2)]),q2 6 3])
 (.seq (.seq (.region true [] [qb 4 1,q0 4,jn (.call false w9c [(.r 0),(.r 1)]),q71_ 2,qe 3,qz 4 5,q46_ 4 5,q63_ 4 6 1,qf 4 7,qe 8,qz 9 6,q46_ 9 10,q63_ 9 11 1,qf 9 12,qe 13,qz 14 5,q75_ 14 1 15 0,qd 14 1 16,qz 14 6,q75_ 14 1 18 0,qd 14 1 19,q57_ 14 17 20,qk 13 14 21])
 (.cond (.v 13) (.exit 1) .skip))
 (.seq (.region true [] [q3 0 1,qc 1 0,q1 1 1,q0 5,q53_ 1 3 0,q1 1 4,qa 3 2 5,qj 3 6,q9 7 1 1 1,q6 3 7 7])
 (.seq (.region true [] [q3 0 1,qc 1 0,q1 1 1,q0 6,q53_ 1 3 0,q1 1 4,qa 3 2 5,qj 3 6,q9 8 1 1 1,q6 3 8 7])
 (.seq (.seq (jr [q3 0 8,q1 1 0,qv 1,q73_ 2 1,qe 3,ql 4 1 8,qd 4 1 5,q46_ 4 6,jf 4 (.bin false .eql (.r 7) (jc 0)),qf 4 8,qe 9,ql 10 1 7,qd 10 1 11,ql 10 1 8,qd 10 1 13,jf 10 (.call false w9t [(.r 12),(.r 14)]),qk 14 10 15])
 (.cond (.v 14) (.exit 1) .skip))
 (.seq (.region true [(7,3),(7,5)] [q3 0 1,qj 2 0,q3 2 1,q1 1 2,q3 3 1,q1 1 4,q4 9 0 3 0 0,jn (.call false w9z [(.r 1)]),jn (.build [(.int .i64 0),(.nil false 3),(.int .i64 0),(.int .i64 0)] [(0,2,(.r 7)),(2,1,(.r 3)),(3,1,(.r 5))]),q6 4 9 8])
 (.seq (jr [q3 1 7,q1 1 0,q0 4,qq 1 2,jn (.call false wa0 [(.r 1),(.r 3)]),q2 10 4])
 (.seq (.seq (jr [q3 1 8,qs 15 1 0,qn 16 15,qg 17 0])
 (.block 2 (.loop [false,false,true,false,true,true,true,false,false,true,true,false,false,false,false,true,true,true,false] (.seq (jr [q7 18 17 16])
 (.seq (.cond (.v 18) .skip (.exit 2))
 (.seq (.block 3 (.seq (jr [qi 1 15 17,q1 1 0,q2 11 1])
 (jr [q0 10,q0 11,q69_ 0 1,q2 10 2])))
 (jr [q8 17 1,q2 17 0])))))))
 (.seq (.region true [] [q3 0 9,qc 1 0,q1 1 1,q0 5,q53_ 1 3 0,q1 1 4,q0 10,qa 3 2 5,qc 1 7,qr 1 8 6])
 (.seq (.region true [] [qb 4 9,q0 4,q0 6,q53_ 1 2 0,q1 1 3,jn (.call false w9d [(.r 0),(.r 1),(.r 4)]),q6 4 2 5,qu 3])
 .ret))))))))))))
 (jr [q0 4,qt 0 1,q2 4 1]))))))
 (.seq (jr [qh 0 3 0 0,q6 4 2 0,q5 3])
 .ret))),
 [.cell true 4 2,.v 3]⟩
def wdx:IFun:=⟨[0,1,2,3,6],
 (.seq (jr [qw 1 4 0,q4 2 0 3 0 0,q5 3])
 (.seq (.seq (jr [qb 4 1,jn (.call false w97 [(.r 0)]),q68_ 4 1])
 (.cond (.v 4) (.seq (jr [qh 0 3 0 0,q6 4 2 0,q5 3])
 .ret) .skip))
 (.seq (jr [qb 4 1,jn (.call false w9b [(.r 0)]),qm 1 0,qm 1 1,q6 4 2 2,q2 3 3])
 .ret))),
 [.cell true 4 2,.v 3]⟩
def we1:IFun:=⟨[0,1,2,3,6,8,11,12,13,14,26],
 (.seq (jr [qw 3 4 0,q5 4])
 (.seq (.seq (jr [q3 0 3,qc 1 0,qs 6 1 1,qn 7 6,qg 8 0])
 (.block 0 (.loop [false,true,true,false,false,false,true,true,true,false,false] (.seq (jr [q7 9 8 7])
 (.seq (.cond (.v 9) .skip (.exit 0))
 (.seq (.block 1 (.seq (jr [qi 3 6 8,qj 3 0,q9 5 1 1 1,q6 3 5 1])
 (.seq (jr [q3 1 5,q1 1 0,q0 1,jn (.call false w9l [(.r 1),(.r 2)]),qe 3,q39_ 4 1 5,q37_ 4 1 5,qy 4 2,jt 4 (.call false w9l [(.r 6),(.r 7)]),q43_ 10 4 8])
 (.cond (.v 10) (.seq (jr [q5 4])
 .ret) .skip))))
 (jr [q8 8 1,q2 8 0])))))))
 (.seq (jr [qu 4])
 .ret))),
 [.v 4]⟩
def we5:IFun:=⟨[0,1,2,3,4,5,6,7,8,9,10,13,14,15,16,49,70,81,82,83,84,91],
 (.seq (jr [qw 1 4 0,q4 2 0 3 0 0,q5 3])
 (.seq (.seq (jr [q3 0 1,qc 1 0,qs 11 1 1,qn 12 11,qg 13 0])
 (.block 0 (.loop [false,true,true,false,false,false,false,false,false,false,false,true,true,true,false,false,false,false,false,false,false,false] (.seq (jr [q7 14 13 12])
 (.seq (.cond (.v 14) .skip (.exit 0))
 (.seq (.block 1 (.seq (jr [q0 13,qi 3 11 13,qj 3 1,q9 5 1 1 1,q2 4 0,q6 3 5 2])
 (.seq (.seq (.region true [] [q3 0 5,q1 1 0,qv 1,q73_ 2 1,qe 3,ql 4 1 5,qd 4 1 5,q46_ 4 6,q63_ 4 7 1,qf 4 8,qe 9,ql 10 0 5,qd 10 1 11,q75_ 10 1 12 0,qd 10 1 13,ql 10 2 1,qd 10 1 15,q57_ 10 14 16,qf 10 17,qe 18,ql 19 0 5,qd 19 1 20,q75_ 19 1 21 0,qd 19 1 22,ql 19 1 5,qd 19 1 24,q75_ 19 1 25 0,qd 19 1 26,q57_ 19 23 27,qk 15 19 28])
 (.cond (.v 15) (.exit 1) .skip))
 (.seq (jr [q3 0 5,q1 1 0,q53_ 1 1 0,q1 1 2,q2 6 3])
 (.seq (jr [q3 1 5,q1 1 0,q53_ 1 1 0,q1 1 2,q2 7 3])
 (.seq (.seq (jr [q3 0 1,qj 2 0,q0 6,jn (.call false w9v [(.r 1),(.r 2)]),qv 3,q73_ 4 1,qe 5,q40_ 6 4 1,qz 6 6,qz 6 7,jf 6 (.call false w96 [(.r 7),(.r 8),(.r 9)]),q54_ 6 10,qk 16 6 11])
 (.cond (.v 16) (.exit 1) .skip))
 (.seq (.region true [(7,3),(7,5)] [q3 0 1,qj 2 0,q3 2 1,q1 1 2,q3 3 1,q1 1 4,q4 8 0 3 0 0,jn (.call false w9z [(.r 1)]),jn (.build [(.int .i64 0),(.nil false 3),(.int .i64 0),(.int .i64 0)] [(0,2,(.r 7)),(2,1,(.r 3)),(3,1,(.r 5))]),q6 4 8 8])
 (.seq (.seq (jr [q3 0 8,qc 1 0,qs 17 1 1,qn 18 17,qg 19 0])
 (.block 2 (.loop [false,false,true,false,true,false,true,true,true,false,false,false,false,false,false,false,false,true,true,true,false,false] (.seq (jr [q7 20 19 18])
 (.seq (.cond (.v 20) .skip (.exit 2))
 (.seq (.block 3 (.seq (jr [q0 19,qi 3 17 19,qj 3 1,q9 10 1 1 1,q2 9 0,q6 3 10 2])
 (.seq (jr [q3 1 10,q1 1 0,q0 6,q66_ 21 1 2])
 (.cond (.v 21) (.region true [(8,2),(8,5),(9,2),(10,2)] [q3 0 8,qc 1 0,q1 1 1,q0 9,q3 1 10,q1 1 4,q0 6,q0 7,qq 1 6,jn (.call false wa0 [(.r 5),(.r 8)]),q69_ 9 7,qa 3 2 3,qc 1 11,qr 1 12 10]) .skip))))
 (jr [q8 19 1,q2 19 0])))))))
 (.seq (jr [qb 4 8,q0 6,q0 4,jn (.call false w9d [(.r 0),(.r 1),(.r 2)]),q6 4 2 3,qu 3])
 .ret)))))))))
 (jr [q8 13 1,q2 13 0])))))))
 (.seq (jr [qh 0 3 0 0,q6 4 2 0,q5 3])
 .ret))),
 [.cell true 4 2,.v 3]⟩
def wdw:IFun:=⟨[0,1,2,3,6],
 (.seq (jr [qw 1 4 0,q4 2 0 3 0 0,q5 3])
 (.seq (.seq (jr [qb 4 1,jn (.call false w97 [(.r 0)]),q68_ 4 1])
 (.cond (.v 4) (.seq (jr [qh 0 3 0 0,q6 4 2 0,q5 3])
 .ret) .skip))
 (.seq (jr [qb 4 1,jn (.call false w9a [(.r 0)]),qm 1 0,qm 1 1,q6 4 2 2,q2 3 3])
 .ret))),
 [.cell true 4 2,.v 3]⟩
def wem:IFun:=⟨[0,1,4,5,10,12,13,14,24],
 (.seq (jr [q5 2])
 (.seq (.seq (jr [q0 0,qv 0,q0 1,qv 2,q49_ 4 1 3])
 (.cond (.v 4) (.seq (jr [q5 2])
 .ret) .skip))
 (.seq (.seq (jr [q0 0,q60_ 5 0,qg 6 0])
 (.block 0 (.loop [true,true,false,false,false,true,true,false,false] (.seq (jr [q7 7 6 5])
 (.seq (.cond (.v 7) .skip (.exit 0))
 (.seq (.block 1 (.seq (jr [q0 6,q2 3 0])
 (.seq (.region true [] [q0 0,q0 3,qa 1 0 1,q1 1 2,q0 1,q0 3,qa 1 4 5,q1 1 6,q49_ 8 3 7])
 (.cond (.v 8) (.seq (jr [q5 2])
 .ret) .skip))))
 (jr [q8 6 1,q2 6 0])))))))
 (.seq (jr [qu 2])
 .ret)))),
 [.v 2]⟩
def we3:IFun:=⟨[0,1,2,3,4,5,10,15,27,47],
 (.seq (jr [qw 1 4 0,q4 2 0 3 0 0,q5 3])
 (.seq (.seq (jr [qg 4 0])
 (.block 0 (.loop [false,true,true,false,true,false,false,false,false,false] (.seq (.seq (jr [q0 4,q3 0 1,qc 0 1,q1 1 2,q55_ 6 0 3])
 (.cond (.v 6) .skip (.exit 0)))
 (.seq (.block 1 (.seq (jr [qg 5 0])
 (.block 2 (.loop [false,true,true,false,true,true,false,false,false,false] (.seq (.seq (jr [q0 5,q0 4,q55_ 7 0 1])
 (.cond (.v 7) .skip (.exit 2)))
 (.seq (.block 3 (.seq (.seq (jr [qb 4 1,q0 5,jn (.call false w9c [(.r 0),(.r 1)]),q71_ 2,qe 3,q40_ 4 4 1,qz 4 4,jf 4 (.call false w9c [(.r 5),(.r 6)]),q54_ 4 7,qk 8 4 8])
 (.cond (.v 8) (.exit 3) .skip))
 (.seq (.region true [(6,4),(16,14)] [q3 0 1,qj 2 0,q0 5,q3 0 1,qj 2 3,q0 4,jn (.call false w9v [(.r 1),(.r 2)]),jn (.call false w9v [(.r 4),(.r 5)]),jn (.call false w9r [(.r 6),(.r 7)]),qe 8,q39_ 9 0 1,q64_ 9 2 10,qy 9 5,q39_ 9 0 1,q64_ 9 2 13,qy 9 4,jt 9 (.call false w9s [(.r 11),(.r 12)]),jt 9 (.call false w9s [(.r 14),(.r 15)]),jt 9 (.call false w9r [(.r 16),(.r 17)]),q43_ 9 9 18])
 (.cond (.v 9) (.seq (jr [qb 4 1,q0 4,jn (.call false w9d [(.r 0),(.r 1),(jc (-1))]),q6 4 2 2,qu 3])
 .ret) .skip))))
 (jr [q0 5,qt 0 1,q2 5 1])))))))
 (jr [q0 4,qt 0 1,q2 4 1]))))))
 (.seq (jr [qh 0 3 0 0,q6 4 2 0,q5 3])
 .ret))),
 [.cell true 4 2,.v 3]⟩
def wdu:IFun:=⟨[0,1,2,3,6],
 (.seq (jr [qw 1 4 0,q4 2 0 3 0 0,q5 3])
 (.seq (.seq (jr [qb 4 1,jn (.call false w97 [(.r 0)]),q68_ 4 1])
 (.cond (.v 4) (.seq (jr [qh 0 3 0 0,q6 4 2 0,q5 3])
 .ret) .skip))
 (.seq (jr [qb 4 1,jn (.call false w98 [(.r 0)]),qm 1 0,qm 1 1,q6 4 2 2,q2 3 3])
 .ret))),
 [.cell true 4 2,.v 3]⟩
def we4:IFun:=⟨[0,1,2,3,4,5,7,10,11,12,13,21,22,23,24,38],
 (.seq (jr [qw 1 4 0,q4 2 0 3 0 0,q5 3])
 (.seq (.seq (jr [q3 0 1,qc 1 0,qs 7 1 1,qn 8 7,qg 9 0])
 (.block 0 (.loop [false,true,true,false,false,false,false,true,true,true,false,false,false,false,false,false] (.seq (jr [q7 10 9 8])
 (.seq (.cond (.v 10) .skip (.exit 0))
 (.seq (.block 1 (.seq (jr [q0 9,qi 3 7 9,qj 3 1,q9 5 1 1 1,q2 4 0,q6 3 5 2])
 (.seq (jr [q3 0 1,qc 1 0,q1 1 1,q0 4,js 11 (.slice 3 (.r 2) none (some (.r 3))),qn 12 11,qg 13 0])
 (.block 2 (.loop [false,true,true,false,true,true,false,true,true,true,false,true,true,true,false,false] (.seq (jr [q7 14 13 12])
 (.seq (.cond (.v 14) .skip (.exit 2))
 (.seq (.block 3 (.seq (jr [qi 3 11 13,qj 3 0,q9 6 1 1 1,q6 3 6 1])
 (.seq (jr [q3 0 6,q1 1 0,q3 0 5,q1 1 2,jn (.call false w9r [(.r 1),(.r 3)]),qe 4,q39_ 5 1 6,q37_ 5 1 6,q39_ 5 1 5,q37_ 5 1 8,jt 5 (.call false w9r [(.r 7),(.r 9)]),q43_ 15 5 10])
 (.cond (.v 15) (.seq (jr [qb 4 1,q0 4,jn (.call false w9d [(.r 0),(jc (-1)),(.r 1)]),q6 4 2 2,qu 3])
 .ret) .skip))))
 (jr [q8 13 1,q2 13 0])))))))))
 (jr [q8 9 1,q2 9 0])))))))
 (.seq (jr [qh 0 3 0 0,q6 4 2 0,q5 3])
 .ret))),
 [.cell true 4 2,.v 3]⟩
def wdv:IFun:=⟨[0,1,2,3,6],
 (.seq (jr [qw 1 4 0,q4 2 0 3 0 0,q5 3])
 (.seq (.seq (jr [qb 4 1,jn (.call false w97 [(.r 0)]),q68_ 4 1])
 (.cond (.v 4) (.seq (jr [qh 0 3 0 0,q6 4 2 0,q5 3])
 .ret) .skip))
 (.seq (jr [qb 4 1,jn (.call false w99 [(.r 0)]),qm 1 0,qm 1 1,q6 4 2 2,q2 3 3])
 .ret))),
 [.cell true 4 2,.v 3]⟩
def wdc:IFun:=⟨[0,1,4,5,10,12,13,14,24],
 (.seq (jr [q5 2])
 (.seq (.seq (jr [q0 0,qv 0,q0 1,qv 2,q49_ 4 1 3])
 (.cond (.v 4) (.seq (jr [q5 2])
 .ret) .skip))
 (.seq (.seq (jr [q0 0,q60_ 5 0,qg 6 0])
 (.block 0 (.loop [true,true,false,false,false,true,true,false,false] (.seq (jr [q7 7 6 5])
 (.seq (.cond (.v 7) .skip (.exit 0))
 (.seq (.block 1 (.seq (jr [q0 6,q2 3 0])
 (.seq (.region true [] [q0 0,q0 3,qa 1 0 1,q1 1 2,q0 1,q0 3,qa 1 4 5,q1 1 6,q49_ 8 3 7])
 (.cond (.v 8) (.seq (jr [q5 2])
 .ret) .skip))))
 (jr [q8 6 1,q2 6 0])))))))
 (.seq (jr [qu 2])
 .ret)))),
 [.v 2]⟩
def wdd:IFun:=⟨[0,1,2,3,4,5,6,7,21,23,24,25,26,56],
 (.seq (jr [q44_ 2 2 0,q44_ 3 2 1,q5 4])
 (.seq (.seq (jr [q3 0 2,q1 1 0,q3 0 3,q1 1 2,jn (.bin false .neq (.r 1) (.r 3)),qe 4,ql 5 1 2,qd 5 1 6,q46_ 5 7,ql 5 1 3,qd 5 1 9,q46_ 5 10,jf 5 (.bin false .neq (.r 8) (.r 11)),qk 8 5 12])
 (.cond (.v 8) (.seq (jr [q5 4])
 .ret) .skip))
 (.seq (.seq (jr [q3 1 2,qs 9 1 0,qn 10 9,qg 11 0])
 (.block 0 (.loop [false,false,false,true,false,false,false,false,false,true,true,true,false,false] (.seq (jr [q7 12 11 10])
 (.seq (.cond (.v 12) .skip (.exit 0))
 (.seq (.block 1 (.seq (jr [q0 11,qi 3 9 11,qj 3 1,q9 6 1 1 1,q2 5 0,q6 3 6 2])
 (.seq (jr [q3 1 3,q1 1 0,q0 5,qa 3 1 2,qj 3 3,q9 7 1 1 1,q6 3 7 4])
 (.seq (jr [q3 0 6,q1 1 0,q3 0 7,q1 1 2,jn (.call false w8g [(.r 1),(.r 3)]),q71_ 4,qe 5,ql 6 1 6,qd 6 1 7,ql 6 1 7,qd 6 1 9,jf 6 (.call false w8g [(.r 8),(.r 10)]),q54_ 6 11,qf 6 12,qe 13,ql 14 2 6,qd 14 1 15,ql 14 2 7,qd 14 1 17,jf 14 (.call false w8g [(.r 16),(.r 18)]),q54_ 14 19,qk 13 14 20])
 (.cond (.v 13) (.seq (jr [q5 4])
 .ret) .skip)))))
 (jr [q8 11 1,q2 11 0])))))))
 (.seq (jr [qu 4])
 .ret)))),
 [.v 4]⟩
def wdb:IFun:=⟨[0,1,2,3,4],
 (.seq (jr [qw 2 4 0,qw 3 4 1,q5 4])
 (.seq (jr [q3 2 2,q1 1 0,q3 2 3,q1 1 2,jn (.bin false .eql (.r 1) (.r 3)),qe 4,q39_ 5 3 2,q37_ 5 1 6,q39_ 5 3 3,q37_ 5 1 8,jt 5 (.bin false .eql (.r 7) (.r 9)),qo 5 10,qe 11,q39_ 12 0 2,q64_ 12 2 13,q39_ 12 0 3,q64_ 12 2 15,jt 12 (.call false w8h [(.r 14),(.r 16)]),qo 12 17,q2 4 18])
 .ret)),
 [.v 4]⟩
def wco:IFun:=⟨[0,1,2,4],
 (.seq (jr [qw 2 4 0,q5 3])
 (.seq (jr [qb 4 2,jn (.call false w6y [(.r 0)]),qe 1,qy 2 1,jt 2 (.call false w87 [(.r 3),(jc 1),(jc 400)]),qo 2 4,q2 3 5])
 .ret)),
 [.v 3]⟩
def wd0:IFun:=⟨[0,1,4,5],
 (.seq (jr [qp 2 1])
 (.seq (jr [q0 0,jn (.mk t_int true 1 (.int .i64 0) (.r 0)),q2 3 1])
 (.seq (jr [q0 3,q0 1,qa 1 0 1,jn (.store 1 (.r 2) (jc 1))])
 (.seq (jr [q0 3,q2 2 0])
 .ret)))),
 [.v 2]⟩
def wd1:IFun:=⟨[0,1,2],
 (.seq (jr [qw 1 4 0,qp 2 1])
 (.seq (jr [q3 0 1,qc 0 0,q1 1 1,q3 2 1,q1 1 3,jn (.call false w84 [(.r 2),(.r 4)]),q2 2 5])
 .ret)),
 [.v 2]⟩
def wcq:IFun:=⟨[0,1,3],
 (.seq (jr [q5 2])
 (.seq (jr [q38_ 1 1,q0 0,qa 1 0 1,q1 1 2,q72_ 3 0,q2 2 4])
 .ret)),
 [.v 2]⟩
def wcp:IFun:=⟨[0,1,2,3,4],
 (.seq (jr [js 2 (.box wgz 3 (.v 0)),js 3 (.box wh2 1 (.v 1)),q5 4])
 (.seq (jr [q3 0 2,q1 1 0,jn (.mkfn w7u [(.v 3)]),jn (.call false w8l [(.r 1),(.r 2)]),q71_ 3,q2 4 4])
 .ret)),
 [.v 4]⟩
def wce:IFun:=⟨[0,1,2,4,5,6,7,9,10,11,12,18],
 (.seq (jr [q44_ 2 2 0,qp 3 1])
 (.seq (jr [qp 4 1])
 (.seq (.seq (jr [q3 1 2,qs 7 1 0,qn 8 7,qg 9 0])
 (.block 0 (.loop [false,true,false,false,true,false,false,true,true,true,false,false] (.seq (jr [q7 10 9 8])
 (.seq (.cond (.v 10) .skip (.exit 0))
 (.seq (.block 1 (.seq (jr [q0 9,qi 3 7 9,qj 3 1,q9 6 1 1 1,q2 5 0,q6 3 6 2])
 (.seq (jr [qb 3 6,q0 1,js 11 (.call false w7t [(.r 0),(.r 1)])])
 (.cond (.v 11) (jr [q0 4,q0 5,qq 1 1,qx 1 0 2,q2 4 3]) .skip))))
 (jr [q8 9 1,q2 9 0])))))))
 (.seq (jr [q0 4,q2 3 0])
 .ret)))),
 [.v 3]⟩
def wch:IFun:=⟨[0,1,2,4,5,7,9,11,15,16,17,18,29,30,31,32,40,41,42,43],
 (.seq (jr [js 2 (.box wgz 3 (.v 0)),qp 3 1])
 (.seq (jr [q0 1,q77_ 0,q2 4 1])
 (.seq (.seq (jr [q3 0 2,qs 8 1 0,qn 9 8,qg 10 0])
 (.block 0 (.loop [false,false,true,false,true,false,false,false,true,true,true,false,false,false,false,false,false,false,false,false] (.seq (jr [q7 11 10 9])
 (.seq (.cond (.v 11) .skip (.exit 0))
 (.seq (.block 1 (.seq (jr [qi 1 8 10,q1 1 0,q2 5 1])
 (jr [q0 4,q0 5,qa 1 0 1,q1 1 2,q41_ 3 1,qa 1 0 1,qr 1 5 4])))
 (jr [q8 10 1,q2 10 0])))))))
 (.seq (.seq (jr [q3 2 2,qs 12 1 0,qn 13 12,qg 14 0])
 (.block 2 (.loop [false,false,true,false,true,false,false,false,false,false,false,false,true,true,true,false,false,false,false,false] (.seq (jr [q7 15 14 13])
 (.seq (.cond (.v 15) .skip (.exit 2))
 (.seq (.block 3 (.seq (jr [qi 1 12 14,q1 1 0,q2 6 1])
 (jr [q0 4,q0 6,qa 1 0 1,jn (.store 1 (.r 2) (jc 0))])))
 (jr [q8 14 1,q2 14 0])))))))
 (.seq (.seq (jr [q3 1 2,qs 16 1 0,qn 17 16,qg 18 0])
 (.block 4 (.loop [false,false,false,false,true,false,false,false,false,false,false,false,false,false,false,false,true,true,true,false] (.seq (jr [q7 19 18 17])
 (.seq (.cond (.v 19) .skip (.exit 4))
 (.seq (.block 5 (.seq (jr [qi 1 16 18,q1 1 0,q2 7 1])
 (jr [q0 4,q0 7,qa 1 0 1,q1 1 2,qt 3 1,qa 1 0 1,qr 1 5 4])))
 (jr [q8 18 1,q2 18 0])))))))
 (.seq (jr [q0 4,q2 3 0])
 .ret)))))),
 [.v 3]⟩
def wc0:IFun:=⟨[0,1,3],
 (.seq (jr [q5 2])
 (.seq (jr [q0 0,q38_ 1 1,jn (.call false w8o [(.r 0),(.r 1)]),q2 2 2])
 .ret)),
 [.v 2]⟩
def wdn:IFun:=⟨[0,1,4,5,7,8,9,16],
 (.seq (jr [qg 2 0])
 (.seq (.seq (jr [q0 0,q60_ 4 0,qg 5 0])
 (.block 0 (.loop [true,true,false,false,true,true,false,false] (.seq (jr [q7 6 5 4])
 (.seq (.cond (.v 6) .skip (.exit 0))
 (.seq (.block 1 (.seq (jr [q0 5,q2 3 0])
 (.seq (jr [q0 1,q0 0,q0 3,qa 1 1 2,q1 1 3,js 7 (.callv false (.r 0) [(.r 4)])])
 (.cond (.v 7) (.seq (jr [q0 3,q2 2 0])
 .ret) .skip))))
 (jr [q8 5 1,q2 5 0])))))))
 (.seq (jr [js 2 (.mov (jc (-1)))])
 .ret))),
 [.v 2]⟩
def wbz:IFun:=⟨[0,1,2,3,4],
 (.seq (jr [js 2 (.box wgy 2 (.v 0)),js 3 (.box wh2 1 (.v 1)),qg 4 0])
 (.seq (jr [q3 0 2,q1 1 0,jn (.mkfn w74 [(.v 3)]),jn (.call false w8s [(.r 1),(.r 2)]),q2 4 3])
 .ret)),
 [.v 4]⟩
def wcg:IFun:=⟨[0,1,2,3,6,7,8,9,11,12,13,22,31,32,33,34,50,56,61],
 (.seq (jr [q44_ 3 2 0,q74_ 4 1 3,qg 5 0])
 (.seq (jr [q0 1,q77_ 0,jn (.bslice false wh2 false 1 [(.r 1)]),jn (.build [(.nil false 1),(.nil true 3)] [(0,1,(.r 2))]),q74_ 6 1 3,q6 2 6 3])
 (.seq (.seq (jr [qg 7 0])
 (.block 0 (.loop [false,false,true,true,true,false,true,true,false,false,false,false,false,false,false,false,false,false,false] (.seq (.seq (jr [q0 7,q3 0 6,q1 1 1,qv 2,q55_ 11 0 3])
 (.cond (.v 11) .skip (.exit 0)))
 (.seq (.block 1 (.seq (.region true [] [qb 2 3,q3 0 6,q1 1 1,q0 7,qa 1 2 3,q1 1 4,qg 14 0,js 12 (.call false w7i [(.r 0),(.r 5)]),qn 13 12])
 (.block 2 (.loop [false,false,true,true,true,false,true,true,false,false,false,false,true,true,true,false,false,false,false] (.seq (jr [q7 15 14 13])
 (.seq (.cond (.v 15) .skip (.exit 2))
 (.seq (.block 3 (.seq (jr [qi 1 12 14,q1 1 0,q2 8 1])
 (.seq (.region true [] [q3 1 3,q1 1 0,q0 8,qa 3 1 2,qj 3 3,q3 0 6,q1 1 5,q0 7,qa 1 6 7,q1 1 8,jn (.call false w7l [(.r 4),(.r 9)]),q2 9 10])
 (.seq (.seq (jr [q0 9,jn (.call false w78 [(.r 0),(jc 0),(jc 50)]),q68_ 16 1])
 (.cond (.v 16) (.seq (jr [jn (.build [(.nil false 1),(.nil true 3)] []),q6 2 4 0,qg 5 3])
 .ret) .skip))
 (.seq (jr [qb 2 6,q0 9,jn (.call false w73 [(.r 0),(.r 1)]),q2 10 2])
 (.seq (.seq (jr [q0 10,js 17 (.bin false .lss (.r 0) (jc 0))])
 (.cond (.v 17) (.seq (.seq (jr [q3 0 6,q1 1 0,qv 1,q0 2,js 18 (.bin false .geq (.r 2) (.r 3))])
 (.cond (.v 18) (.seq (jr [jn (.build [(.nil false 1),(.nil true 3)] []),q6 2 4 0,qg 5 2])
 .ret) .skip))
 (.seq (jr [q3 0 6,q1 1 0,qv 1,q2 10 2])
 (jr [q3 0 6,q1 1 0,q0 9,jn (.bslice false wh2 false 1 [(.r 2)]),jn (.append wh2 false 1 (.r 1) (.r 3)),q3 0 6,qr 1 5 4]))) .skip))
 (jr [q3 1 6,q1 1 0,q0 7,q0 8,q0 10,jn (.build [(.int .i64 0),(.int .i64 0),(.int .i64 0)] [(0,1,(.r 2)),(1,1,(.r 3)),(2,1,(.r 4))]),jn (.bslice false wgv true 3 [(.r 5)]),jn (.append wgv true 3 (.r 1) (.r 6)),q3 1 6,qr 1 8 7])))))))
 (jr [q8 14 1,q2 14 0]))))))))
 (jr [q0 7,qt 0 1,q2 7 1]))))))
 (.seq (jr [qb 2 6,q6 2 4 0,qg 5 1])
 .ret)))),
 [.cell true 2 4,.v 5]⟩
def wcf:IFun:=⟨[0,1,2],
 (.seq (jr [qw 1 4 0,qp 2 1])
 (.seq (jr [q3 0 1,qc 0 0,q1 1 1,q3 3 1,q1 1 3,jn (.call false w84 [(.r 2),(.r 4)]),q2 2 5])
 .ret)),
 [.v 2]⟩
def wc1:IFun:=⟨[0,1,2,4,5,6,8,9,11,12,14,24,25,26,27,46,47,48,49,59,68,69,70,71,78],
 (.seq (jr [js 2 (.box wgy 2 (.v 0)),q78_ 3 1])
 (.seq (jr [q3 0 2,q1 1 0,qv 1,q56_ 1 2,q2 4 3])
 (.seq (jr [q3 0 2,q1 1 0,qv 1,jn (.mkl wh2 1 (.nil true 1) (.r 2)),q2 5 3])
 (.seq (.seq (jr [q3 1 2,js 11 (.ldf (.r 0)),qn 12 11,qg 13 0])
 (.block 0 (.loop [false,true,false,false,true,true,false,false,false,false,false,true,true,true,false,false,false,false,false,false,false,false,false,false,false] (.seq (jr [q7 14 13 12])
 (.seq (.cond (.v 14) .skip (.exit 0))
 (.seq (.block 1 (.seq (jr [qi 3 11 13,qj 3 0,js 6 (.alloc wgv [(.int .i64 0),(.int .i64 0),(.int .i64 0)]),q36_ 3 6 1])
 (.region true [(10,2),(10,8),(11,2)] [q0 5,q3 2 6,q1 1 1,q0 5,q3 2 6,q1 1 4,qa 1 3 5,q3 0 6,q1 1 7,jn (.bslice true t_int true 1 [(.r 8)]),jn (.ldt t_int (.r 6)),jn (.apq t_int 1 (.r 10) (.r 9)),qa 1 0 2,jn (.stl 1 (.r 12) (.r 11))])))
 (jr [q8 13 1,q2 13 0])))))))
 (.seq (jr [q0 1,q77_ 0,q2 7 1])
 (.seq (.seq (jr [q59_ 15 1,qn 16 15,qg 17 0])
 (.block 2 (.loop [false,false,false,false,true,true,false,true,false,false,false,false,false,false,false,true,true,true,false,false,false,false,false,false,false] (.seq (jr [q7 18 17 16])
 (.seq (.cond (.v 18) .skip (.exit 2))
 (.seq (.block 3 (.seq (jr [qi 1 15 17,q1 1 0,q2 8 1])
 (jr [q0 4,q0 8,qa 1 0 1,jn (.stl 1 (.r 2) (.c (.bool true)))])))
 (jr [q8 17 1,q2 17 0])))))))
 (.seq (.seq (jr [qg 9 0])
 (.block 4 (.loop [false,false,false,false,true,true,false,true,false,true,false,false,false,false,false,false,false,false,false,false,false,false,false,false,false] (.seq (.seq (jr [q0 9,q0 7,qv 1,q55_ 19 0 2])
 (.cond (.v 19) .skip (.exit 4)))
 (.seq (.block 5 (.seq (jr [q0 5,q0 7,q0 9,qa 1 1 2,q1 1 3,qa 1 0 4,js 20 (.ldf (.r 5)),qn 21 20,qg 22 0])
 (.block 6 (.loop [false,false,false,false,true,true,false,true,false,true,false,false,false,false,false,false,false,false,false,false,true,true,true,false,false] (.seq (jr [q7 23 22 21])
 (.seq (.cond (.v 23) .skip (.exit 6))
 (.seq (.block 7 (.seq (jr [qi 1 20 22,q1 1 0,q2 10 1])
 (.seq (jr [q0 4,q0 10,qa 1 0 1,q1 1 2,q68_ 24 3])
 (.cond (.v 24) (.seq (jr [q0 4,q0 10,qa 1 0 1,jn (.stl 1 (.r 2) (.c (.bool true)))])
 (jr [q0 7,q0 10,qq 1 1,jn (.apq t_int 1 (.r 0) (.r 2)),q2 7 3])) .skip))))
 (jr [q8 22 1,q2 22 0]))))))))
 (jr [q0 9,qt 0 1,q2 9 1]))))))
 (.seq (jr [q0 4,q2 3 0])
 .ret)))))))),
 [.v 3]⟩
def wdo:IFun:=⟨[0,1,4,5,7,8,9,16],
 (.seq (jr [qg 2 0])
 (.seq (.seq (jr [q0 0,q60_ 4 0,qg 5 0])
 (.block 0 (.loop [true,true,false,false,true,true,false,false] (.seq (jr [q7 6 5 4])
 (.seq (.cond (.v 6) .skip (.exit 0))
 (.seq (.block 1 (.seq (jr [q0 5,q2 3 0])
 (.seq (jr [q0 1,q0 0,q0 3,qa 1 1 2,q1 1 3,js 7 (.bin true .eql (.r 0) (.r 4))])
 (.cond (.v 7) (.seq (jr [q0 3,q2 2 0])
 .ret) .skip))))
 (jr [q8 5 1,q2 5 0])))))))
 (.seq (jr [js 2 (.mov (jc (-1)))])
 .ret))),
 [.v 2]⟩
def wca:IFun:=⟨[0,1,4,5,6,7,8,9,10,19],
 (.seq (jr [q5 2])
 (.seq (.seq (jr [q59_ 5 0,qn 6 5,qg 7 0])
 (.block 0 (.loop [false,true,false,false,false,true,true,true,false,false] (.seq (jr [q7 8 7 6])
 (.seq (.cond (.v 8) .skip (.exit 0))
 (.seq (.block 1 (.seq (jr [q0 7,qi 1 5 7,q1 1 1,q2 3 0,q2 4 2])
 (.seq (jr [q0 4,q0 1,q0 3,qa 1 1 2,q1 1 3,q55_ 9 0 4])
 (.cond (.v 9) (.seq (jr [q5 2])
 .ret) .skip))))
 (jr [q8 7 1,q2 7 0])))))))
 (.seq (jr [qu 2])
 .ret))),
 [.v 2]⟩
def wcs:IFun:=⟨[0,1,4],
 (.seq (jr [q5 2])
 (.seq (jr [q0 0,q0 1,jn (.call false w7e [(.r 0),(.r 1)]),qe 2,qy 3 0,qy 3 1,jt 3 (.call false w8o [(.r 4),(.r 5)]),jt 3 (.not (.r 6)),qo 3 7,q2 2 8])
 .ret)),
 [.v 2]⟩
def wc8:IFun:=⟨[0,1,3],
 (.seq (jr [q5 2])
 (.seq (jr [q0 0,q38_ 1 1,jn (.call false w7w [(.r 0),(.r 1)]),q2 2 2])
 .ret)),
 [.v 2]⟩
def wc3:IFun:=⟨[0,1,2,3],
 (.seq (jr [js 2 (.box wgv 3 (.v 0)),q5 3])
 (.seq (jr [q3 2 2,q1 1 0,q38_ 1 1,jn (.bin false .eql (.r 1) (.r 2)),q2 3 3])
 .ret)),
 [.v 3]⟩
def wdk:IFun:=⟨[0,1,4,5,7,8,9,16],
 (.seq (jr [qg 2 0])
 (.seq (.seq (jr [q0 0,q60_ 4 0,qg 5 0])
 (.block 0 (.loop [true,true,false,false,true,true,false,false] (.seq (jr [q7 6 5 4])
 (.seq (.cond (.v 6) .skip (.exit 0))
 (.seq (.block 1 (.seq (jr [q0 5,q2 3 0])
 (.seq (jr [q0 1,q0 0,q0 3,qa 3 1 2,qj 3 3,js 7 (.callv false (.r 0) [(.r 4)])])
 (.cond (.v 7) (.seq (jr [q0 3,q2 2 0])
 .ret) .skip))))
 (jr [q8 5 1,q2 5 0])))))))
 (.seq (jr [js 2 (.mov (jc (-1)))])
 .ret))),
 [.v 2]⟩
def wdq:IFun:=⟨[0,2,3,9],
 (.seq (jr [q0 0,qv 0,q41_ 1 1,qg 1 0,q2 2 2])
 (.block 0 (.loop [true,true,true,false] (.seq (.seq (jr [q0 1,q0 2,q55_ 3 0 1])
 (.cond (.v 3) .skip (.exit 0)))
 (.seq (.block 1 (.region true [] [q0 0,q0 1,q0 0,q0 2,q0 0,q0 2,qa 1 4 5,q1 1 6,q0 0,q0 1,qa 1 8 9,q1 1 10,qa 1 0 1,qr 1 12 7,qa 1 2 3,qr 1 14 11]))
 (jr [q0 1,qt 0 1,q0 2,q41_ 2 1,q2 1 1,q2 2 3])))))),
 []⟩
def wc2:IFun:=⟨[0,1,2,4,5,6,7,8,13,15],
 (.seq (jr [js 2 (.box wgy 2 (.v 0)),qp 3 1,q5 4])
 (.seq (jr [qb 2 2,q0 1,jn (.call false w73 [(.r 0),(.r 1)]),js 5 (.alloc t_int [(.int .i64 0)]),q6 1 5 2])
 (.seq (.seq (jr [q38_ 1 5,js 8 (.bin false .lss (.r 0) (jc 0))])
 (.cond (.v 8) (.seq (jr [qp 3 1,q5 4])
 .ret) .skip))
 (.seq (jr [qp 6 1])
 (.seq (.block 0 (.loop [false,false,true,false,false,true,true,false,false,false] (.seq (.seq (jr [q38_ 1 5,q70_ 9 0 0])
 (.cond (.v 9) .skip (.exit 0)))
 (.block 1 (.seq (.region true [(6,1)] [q3 1 2,q1 1 0,q3 1 2,q1 1 2,jn (.mkfn w77 [(.v 5)]),js 7 (.alloc wgv [(.int .i64 0),(.int .i64 0),(.int .i64 0)]),jn (.call false w8p [(.r 3),(.r 4)]),qa 3 1 6,qj 3 7,q6 3 7 8])
 (.seq (jr [q0 6,q3 1 7,q1 1 1,qq 1 2,qx 1 0 3,q2 6 4])
 (jr [q3 0 7,q1 1 0,q6 1 5 1])))))))
 (.seq (jr [q0 6,jn (.callm w8v [(.r 0)])])
 (.seq (jr [q0 6,q2 3 0,qu 4])
 .ret))))))),
 [.v 3,.v 4]⟩
def wby:IFun:=⟨[0,1,2,3],
 (.seq (jr [js 2 (.box wgv 3 (.v 0)),q5 3])
 (.seq (jr [q3 1 2,q1 1 0,q38_ 1 1,jn (.bin false .eql (.r 1) (.r 2)),q2 3 3])
 .ret)),
 [.v 3]⟩
def wde:IFun:=⟨[0,1,4],
 (.seq (jr [q5 2])
 (.seq (jr [q0 0,q0 1,jn (.call false w8p [(.r 0),(.r 1)]),jn (.bin false .geq (.r 2) (jc 0)),q2 2 3])
 .ret)),
 [.v 2]⟩
def wbx:IFun:=⟨[0,1,2,3,4,5,6,9,10,11,17],
 (.seq (jr [js 2 (.box wgy 2 (.v 0)),q44_ 3 2 1,qp 4 1])
 (.seq (jr [qp 5 1])
 (.seq (.seq (jr [q3 1 3,q1 1 0,q60_ 7 1,qg 8 0])
 (.block 0 (.loop [false,false,true,false,false,true,false,true,true,false,false] (.seq (jr [q7 9 8 7])
 (.seq (.cond (.v 9) .skip (.exit 0))
 (.seq (.block 1 (.seq (jr [q0 8,js 6 (.alloc t_int [(.int .i64 0)]),q6 1 6 0])
 (.seq (jr [q3 1 2,q1 1 0,jn (.mkfn w72 [(.v 6)]),jn (.call false w8j [(.r 1),(.r 2)]),q68_ 10 3])
 (.cond (.v 10) (jr [q0 5,q38_ 1 6,qq 1 1,qx 1 0 2,q2 5 3]) .skip))))
 (jr [q8 8 1,q2 8 0])))))))
 (.seq (jr [q0 5,q2 4 0])
 .ret)))),
 [.v 4]⟩
def wc7:IFun:=⟨[0,1,2,4,5,6,7,8,9,10,11,12,13,15,26,39,47,53,66,79],
 (.seq (jr [qw 2 4 0,q47_ 3 0 0 1 0,q74_ 4 1 3])
 (.seq (.region true [(5,1)] [q3 0 2,qj 2 0,qb 4 2,q0 1,q74_ 5 1 3,jn (.call false w85 [(.r 2)]),jn (.call false w7k [(.r 1),(.r 5),(.r 3)]),qe 6,qm 7 0,qm 7 1,q6 2 5 8,q2 6 9])
 (.seq (.seq (jr [q0 6,js 14 (.bin false .neq (.r 0) (jc 1))])
 (.cond (.v 14) (.seq (.region true [(2,1)] [q58_ 0 0 1 0 0 1 3,qb 2 5,q6 4 3 0,q6 2 4 1])
 .ret) .skip))
 (.seq (jr [qb 4 2,jn (.call false w7j [(.r 0)]),js 7 (.alloc wh2 [(.nil true 1)]),q6 1 7 1])
 (.seq (jr [q3 0 5,q1 1 0,qv 1,q56_ 1 2,q2 8 3])
 (.seq (.seq (jr [qb 2 5,q38_ 1 7,jn (.call false w73 [(.r 0),(.r 1)]),q2 9 2])
 (.seq (jr [q0 9,js 15 (.bin false .geq (.r 0) (jc 0))])
 (.cond (.v 15) (jr [qb 2 5,q0 9,qq 1 1,jn (.call false w75 [(.r 0),(.r 2)]),q2 8 3]) .skip)))
 (.seq (jr [q0 8,jn (.call false w8t [(.r 0),(.c (.bool false))]),qg 10 1,q2 11 1])
 (.seq (.seq (jr [q0 11,js 16 (.bin false .lss (.r 0) (jc 0))])
 (.cond (.v 16) (jr [q3 0 5,q1 1 0,jn (.mkfn w7c [(.v 7)]),jn (.call false w8s [(.r 1),(.r 2)]),qg 10 2,q2 11 3]) .skip))
 (.seq (.seq (jr [q0 11,js 17 (.bin false .geq (.r 0) (jc 0))])
 (.cond (.v 17) (.seq (.region true [] [qb 2 5,q3 0 5,q1 1 1,q0 11,qa 1 2 3,q1 1 4,jn (.call false w76 [(.r 0),(.r 5)]),qe 6,qm 7 0,qm 7 1,q2 12 8,qe 9])
 (.seq (.seq (jr [q0 12,qv 0,q70_ 18 1 60])
 (.cond (.v 18) (.seq (.region true [(2,1)] [q58_ 0 0 1 0 0 1 3,qb 2 5,q6 4 3 0,q6 2 4 1])
 .ret) .skip))
 (.seq (.region true [(4,3)] [q0 10,q0 12,jn (.build [(.int .i64 0),(.int .i64 0),(.nil true 1),(.int .i64 0)] [(0,1,(jc 2)),(1,1,(.r 0)),(2,1,(.r 1))]),qb 2 5,q6 4 3 2,q6 2 4 3])
 .ret))) .skip))
 (.seq (.seq (jr [qb 2 5,q3 0 2,qj 2 1,jn (.call false w71 [(.r 0),(.r 2)]),q2 13 3])
 (.seq (jr [q0 13,qv 0,q70_ 19 1 0])
 (.cond (.v 19) (.seq (.region true [(5,4)] [q0 13,q53_ 1 0 0,q1 1 1,jn (.build [(.int .i64 0),(.int .i64 0),(.nil true 1),(.int .i64 0)] [(0,1,(jc 2)),(1,1,(jc 3)),(3,1,(.r 2))]),qb 2 5,q6 4 3 3,q6 2 4 4])
 .ret) .skip)))
 (.seq (.region true [(2,1)] [q58_ 0 0 1 0 0 1 1,qb 2 5,q6 4 3 0,q6 2 4 1])
 .ret))))))))))),
 [.cell true 4 3,.cell true 2 4]⟩
def wbp:IFun:=⟨[0,1,2,4,5,6,11],
 (.seq (jr [qw 2 4 0,q47_ 3 0 0 1 0,q5 4])
 (.seq (.seq (jr [qb 4 2,q0 1,jn (.call false w7s [(.r 0),(.r 1)]),q68_ 6 2])
 (.cond (.v 6) (.seq (jr [jn (.build [(.int .i64 0),(.int .i64 0),(.nil true 1),(.int .i64 0)] []),q6 4 3 0,q5 4])
 .ret) .skip))
 (.seq (jr [qb 4 2,q0 1,jn (.call false w7b [(.r 0),(.r 1)]),qe 2,qm 3 0,qm 3 1,q47_ 5 0 0 1 0,jn (.alloc wgy [(.nil false 1),(.nil true 3)]),q6 4 5 4,qr 2 7 5])
 (.seq (jr [qb 4 5,q6 4 3 0,qu 4])
 .ret)))),
 [.cell true 4 3,.v 4]⟩
def wd9:IFun:=⟨[0,1,2,3,4,5,6,7,8,24],
 (.seq (jr [qw 2 4 0,qw 3 4 1,q5 4])
 (.seq (jr [qb 4 2,jn (.call false w6t [(.r 0),(jc 400)]),qe 1,qm 2 0,qm 2 1,q47_ 5 0 0 1 0,q6 4 5 3,q2 6 4])
 (.seq (jr [qb 4 3,jn (.call false w6t [(.r 0),(jc 400)]),qe 1,qm 2 0,qm 2 1,q47_ 7 0 0 1 0,q6 4 7 3,q2 8 4])
 (.seq (.seq (jr [q0 6,q71_ 0,qe 1,qz 2 8,q54_ 2 3,qk 9 2 4])
 (.cond (.v 9) (.seq (jr [q5 4])
 .ret) .skip))
 (.seq (jr [q3 0 5,q1 1 0,q72_ 1 3,qe 2,ql 3 0 7,qd 3 1 4,jf 3 (.bin false .eql (.r 5) (jc 3)),qf 3 6,qe 7,ql 8 0 5,qd 8 1 9,ql 8 0 7,qd 8 1 11,q57_ 8 10 12,qf 8 13,q2 4 14])
 .ret))))),
 [.v 4]⟩
def wd8:IFun:=⟨[0,1,4,5,6,7,8,9,10,11,12,13,14,15,16,17,18,19,20,21,22,23,26,114],
 (.seq (jr [q5 2])
 (.seq (.seq (jr [q0 0,q0 1,js 22 (.call false w8e [(.r 0),(.r 1)])])
 (.cond (.v 22) (.seq (jr [qu 2])
 .ret) .skip))
 (.seq (jr [q0 0,jn (.call false w8y [(.r 0)]),q4 3 0 3 0 0,q6 4 3 1])
 (.seq (jr [qb 4 3,jn (.call false w6x [(.r 0)]),qe 1,qm 2 0,qm 2 1,q4 4 0 3 0 0,q6 4 4 3,q2 5 4])
 (.seq (jr [qb 4 3,jn (.call false w6w [(.r 0)]),qe 1,qm 2 0,qm 2 1,q4 6 0 3 0 0,q6 4 6 3,q2 7 4])
 (.seq (jr [q0 0,jn (.call false w8w [(.r 0)]),q4 8 0 3 0 0,q6 4 8 1])
 (.seq (jr [qb 4 8,jn (.call false w6u [(.r 0)]),qe 1,qm 2 0,qm 2 1,q4 9 0 3 0 0,q6 4 9 3,q2 10 4])
 (.seq (jr [q0 1,jn (.call false w8x [(.r 0)]),q4 11 0 3 0 0,q6 4 11 1])
 (.seq (jr [qb 4 11,jn (.call false w6v [(.r 0)]),qe 1,qm 2 0,qm 2 1,q4 12 0 3 0 0,q6 4 12 3,q2 13 4])
 (.seq (jr [qb 4 3,jn (.call false w92 [(.r 0)]),qe 1,qm 2 0,qm 2 1,q4 14 0 3 0 0,q6 4 14 3,q2 15 4])
 (.seq (jr [qb 4 3,jn (.call false w91 [(.r 0)]),qe 1,qm 2 0,qm 2 1,q4 16 0 3 0 0,q6 4 16 3,q2 17 4])
 (.seq (jr [qb 4 8,jn (.call false w8z [(.r 0)]),qe 1,qm 2 0,qm 2 1,q4 18 0 3 0 0,q6 4 18 3,q2 19 4])
 (.seq (jr [qb 4 11,jn (.call false w90 [(.r 0)]),qe 1,qm 2 0,qm 2 1,q4 20 0 3 0 0,q6 4 20 3,q2 21 4])
 (.seq (.seq (jr [q0 5,q0 15,jn (.bin true .neq (.r 0) (.r 1)),qe 2,q40_ 3 4 4,q40_ 3 4 14,jf 3 (.call false w8f [(.r 4),(.r 5)]),q54_ 3 6,qf 3 7,qe 8,qz 9 7,qz 9 17,jf 9 (.bin true .neq (.r 10) (.r 11)),qf 9 12,qe 13,q40_ 14 4 6,q40_ 14 4 16,jf 14 (.call false w8f [(.r 15),(.r 16)]),q54_ 14 17,qf 14 18,qe 19,qz 20 10,qz 20 19,jf 20 (.bin true .neq (.r 21) (.r 22)),qf 20 23,qe 24,q40_ 25 4 9,q40_ 25 4 18,jf 25 (.call false w8f [(.r 26),(.r 27)]),q54_ 25 28,qf 25 29,qe 30,qz 31 13,qz 31 21,jf 31 (.bin true .neq (.r 32) (.r 33)),qf 31 34,qe 35,q40_ 36 4 12,q40_ 36 4 20,jf 36 (.call false w8f [(.r 37),(.r 38)]),q54_ 36 39,qk 23 36 40])
 (.cond (.v 23) (.seq (jr [q5 2])
 .ret) .skip))
 (.seq (jr [q0 5,q71_ 0,qe 1,q40_ 2 4 3,q40_ 2 4 4,jf 2 (.call false w8d [(.r 3),(.r 4)]),qf 2 5,qe 6,qy 7 7,jt 7 (.not (.r 8)),jt 7 (.mov (.r 9)),q40_ 10 4 3,q40_ 10 4 6,jf 10 (.call false w8d [(.r 11),(.r 12)]),jt 7 (.pick (.r 10) (.c (.bool true)) (.r 13)),qo 7 14,qe 15,qy 16 10,jt 16 (.not (.r 17)),jt 16 (.mov (.r 18)),q40_ 19 4 8,q40_ 19 4 9,jf 19 (.call false w8d [(.r 20),(.r 21)]),jt 16 (.pick (.r 19) (.c (.bool true)) (.r 22)),qo 16 23,qe 24,qy 25 13,jt 25 (.not (.r 26)),jt 25 (.mov (.r 27)),q40_ 28 4 11,q40_ 28 4 12,jf 28 (.call false w8d [(.r 29),(.r 30)]),jt 25 (.pick (.r 28) (.c (.bool true)) (.r 31)),qo 25 32,q2 2 33])
 .ret))))))))))))))),
 [.v 2]⟩
def tbl:List (FuncId×IFun):=[(w8e,wda),(w9h,wec),(w9j,wee),(w9i,wed),(w9p,wek),(w9g,web),(w9k,wef),(w9e,we9),(w9f,wea),(w8y,wdt),(w87,wd3),(w7r,wcn),(w78,wc4),(w79,wc5),(w70,wbw),(w8q,wdl),(w8k,wdf),(w6z,wbv),(w8u,wdp),(w8m,wdh),(w82,wcy),(w8r,wdm),(w8l,wdg),(w81,wcx),(w7a,wc6),(w80,wcw),(w6y,wbu),(w7q,wcm),(w7p,wcl),(w7x,wct),(w86,wd2),(w7v,wcr),(w7y,wcu),(w7z,wcv),(w7d,wc9),(w83,wcz),(w8n,wdi),(w8b,wd7),(w89,wd5),(w8a,wd6),(w88,wd4),(w7o,wck),(w6x,wbt),(w7n,wcj),(w7m,wci),(w6w,wbs),(w9l,weg),(w8w,wdr),(w8o,wdj),(w7f,wcb),(w6u,wbq),(w8x,wds),(w7h,wcd),(w7g,wcc),(w6v,wbr),(w9m,weh),(w9o,wej),(w9q,wel),(w94,wdz),(w9y,wet),(w9w,wer),(w9x,wes),(w95,we0),(w93,wdy),(w9u,wep),(w97,we2),(w9s,wen),(w9v,weq),(w9c,we7),(w9t,weo),(w9n,wei),(w9z,weu),(wa0,wev),(w9d,we8),(w9b,we6),(w92,wdx),(w96,we1),(w9a,we5),(w91,wdw),(w9r,wem),(w98,we3),(w8z,wdu),(w99,we4),(w90,wdv),(w8g,wdc),(w8h,wdd),(w8f,wdb),(w7s,wco),(w84,wd0),(w85,wd1),(w7u,wcq),(w7t,wcp),(w7i,wce),(w7l,wch),(w74,wc0),(w8s,wdn),(w73,wbz),(w7k,wcg),(w7j,wcf),(w75,wc1),(w8t,wdo),(w7e,wca),(w7w,wcs),(w7c,wc8),(w77,wc3),(w8p,wdk),(w8v,wdq),(w76,wc2),(w72,wby),(w8j,wde),(w71,wbx),(w7b,wc7),(w6t,wbp),(w8d,wd9),(w8c,wd8)]
def F(f:FuncId):Option IFun:=(tbl.find? fun p=>p.1 == f).map (·.2)
def exts:List (FuncId×(List PV→Option PV)):=[(w8i,w6r)]
def ext(f:FuncId):Option (List PV→Option PV):=(exts.find? fun p=>p.1 == f).map (·.2)
noncomputable def C:Orc:=lim F ext
@[go_sem] abbrev Wr(i:IFun)(a:List PV)(M:List Blk)(r:PV×List Blk):Prop:=W C M.length i.body ⟨start i a,M⟩ (Lv M.length i.results r)
@[go_sem] abbrev We(i:IFun)(a:List PV)(M:List Blk)(P:PV×List Blk→Prop):Prop:=W C M.length i.body ⟨start i a,M⟩ (Le' M.length i.results P)
variable {a : List PV} {M : List Blk} {r : PV × List Blk} {P : PV × List Blk → Prop}
theorem w1l(h:Wr wda a M r):C w8e a M=some r:=z8c rfl rfl h
theorem w33(h:We wec a M P):Lw (C w9h a M) P:=z89 rfl rfl h
theorem w35(h:We wee a M P):Lw (C w9j a M) P:=z89 rfl rfl h
theorem w34(h:We wed a M P):Lw (C w9i a M) P:=z89 rfl rfl h
theorem w37(h:We wek a M P):Lw (C w9p a M) P:=z89 rfl rfl h
theorem w2l(h:Wr wek a M r):C w9p a M=some r:=z8c rfl rfl h
theorem w32(h:We web a M P):Lw (C w9g a M) P:=z89 rfl rfl h
theorem w36(h:We wef a M P):Lw (C w9k a M) P:=z89 rfl rfl h
theorem w30(h:We we9 a M P):Lw (C w9e a M) P:=z89 rfl rfl h
theorem w31(h:We wea a M P):Lw (C w9f a M) P:=z89 rfl rfl h
theorem w2z(h:We wdt a M P):Lw (C w8y a M) P:=z89 rfl rfl h
theorem w1e(h:Wr wd3 a M r):C w87 a M=some r:=z8c rfl rfl h
theorem w0y(h:Wr wcn a M r):C w7r a M=some r:=z8c rfl rfl h
theorem w0f(h:Wr wc4 a M r):C w78 a M=some r:=z8c rfl rfl h
theorem w0g(h:Wr wc5 a M r):C w79 a M=some r:=z8c rfl rfl h
theorem w07(h:Wr wbw a M r):C w70 a M=some r:=z8c rfl rfl h
theorem w1w(h:Wr wdl a M r):C w8q a M=some r:=z8c rfl rfl h
theorem w1q(h:Wr wdf a M r):C w8k a M=some r:=z8c rfl rfl h
theorem w06(h:Wr wbv a M r):C w6z a M=some r:=z8c rfl rfl h
theorem w20(h:Wr wdp a M r):C w8u a M=some r:=z8c rfl rfl h
theorem w1s(h:Wr wdh a M r):C w8m a M=some r:=z8c rfl rfl h
theorem w19(h:Wr wcy a M r):C w82 a M=some r:=z8c rfl rfl h
theorem w1x(h:Wr wdm a M r):C w8r a M=some r:=z8c rfl rfl h
theorem w1r(h:Wr wdg a M r):C w8l a M=some r:=z8c rfl rfl h
theorem w18(h:Wr wcx a M r):C w81 a M=some r:=z8c rfl rfl h
theorem w0h(h:Wr wc6 a M r):C w7a a M=some r:=z8c rfl rfl h
theorem w17(h:Wr wcw a M r):C w80 a M=some r:=z8c rfl rfl h
theorem w05(h:Wr wbu a M r):C w6y a M=some r:=z8c rfl rfl h
theorem w0x(h:Wr wcm a M r):C w7q a M=some r:=z8c rfl rfl h
theorem w0w(h:Wr wcl a M r):C w7p a M=some r:=z8c rfl rfl h
theorem w14(h:Wr wct a M r):C w7x a M=some r:=z8c rfl rfl h
theorem w1d(h:Wr wd2 a M r):C w86 a M=some r:=z8c rfl rfl h
theorem w12(h:Wr wcr a M r):C w7v a M=some r:=z8c rfl rfl h
theorem w15(h:Wr wcu a M r):C w7y a M=some r:=z8c rfl rfl h
theorem w16(h:Wr wcv a M r):C w7z a M=some r:=z8c rfl rfl h
theorem w0k(h:Wr wc9 a M r):C w7d a M=some r:=z8c rfl rfl h
theorem w1a(h:Wr wcz a M r):C w83 a M=some r:=z8c rfl rfl h
theorem w1t(h:Wr wdi a M r):C w8n a M=some r:=z8c rfl rfl h
theorem w1i(h:Wr wd7 a M r):C w8b a M=some r:=z8c rfl rfl h
theorem w1g(h:Wr wd5 a M r):C w89 a M=some r:=z8c rfl rfl h
theorem w1h(h:Wr wd6 a M r):C w8a a M=some r:=z8c rfl rfl h
theorem w1f(h:Wr wd4 a M r):C w88 a M=some r:=z8c rfl rfl h
theorem w0v(h:Wr wck a M r):C w7o a M=some r:=z8c rfl rfl h
theorem w04(h:Wr wbt a M r):C w6x a M=some r:=z8c rfl rfl h
theorem w0u(h:Wr wcj a M r):C w7n a M=some r:=z8c rfl rfl h
theorem w0t(h:Wr wci a M r):C w7m a M=some r:=z8c rfl rfl h
theorem w03(h:Wr wbs a M r):C w6w a M=some r:=z8c rfl rfl h
theorem w2h(h:Wr weg a M r):C w9l a M=some r:=z8c rfl rfl h
theorem w2x(h:We wdr a M P):Lw (C w8w a M) P:=z89 rfl rfl h
theorem w1u(h:Wr wdj a M r):C w8o a M=some r:=z8c rfl rfl h
theorem w0m(h:Wr wcb a M r):C w7f a M=some r:=z8c rfl rfl h
theorem w01(h:Wr wbq a M r):C w6u a M=some r:=z8c rfl rfl h
theorem w2y(h:We wds a M P):Lw (C w8x a M) P:=z89 rfl rfl h
theorem w0o(h:Wr wcd a M r):C w7h a M=some r:=z8c rfl rfl h
theorem w0n(h:Wr wcc a M r):C w7g a M=some r:=z8c rfl rfl h
theorem w02(h:Wr wbr a M r):C w6v a M=some r:=z8c rfl rfl h
theorem w2i(h:Wr weh a M r):C w9m a M=some r:=z8c rfl rfl h
theorem w2k(h:Wr wej a M r):C w9o a M=some r:=z8c rfl rfl h
theorem w2m(h:Wr wel a M r):C w9q a M=some r:=z8c rfl rfl h
theorem w27(h:Wr wdz a M r):C w94 a M=some r:=z8c rfl rfl h
theorem w2u(h:Wr wet a M r):C w9y a M=some r:=z8c rfl rfl h
theorem w2s(h:Wr wer a M r):C w9w a M=some r:=z8c rfl rfl h
theorem w2t(h:Wr wes a M r):C w9x a M=some r:=z8c rfl rfl h
theorem w28(h:Wr we0 a M r):C w95 a M=some r:=z8c rfl rfl h
theorem w26(h:Wr wdy a M r):C w93 a M=some r:=z8c rfl rfl h
theorem w2q(h:Wr wep a M r):C w9u a M=some r:=z8c rfl rfl h
theorem w2a(h:Wr we2 a M r):C w97 a M=some r:=z8c rfl rfl h
theorem w2o(h:Wr wen a M r):C w9s a M=some r:=z8c rfl rfl h
theorem w2r(h:Wr weq a M r):C w9v a M=some r:=z8c rfl rfl h
theorem w2f(h:Wr we7 a M r):C w9c a M=some r:=z8c rfl rfl h
theorem w2p(h:Wr weo a M r):C w9t a M=some r:=z8c rfl rfl h
theorem w2j(h:Wr wei a M r):C w9n a M=some r:=z8c rfl rfl h
theorem w2v(h:Wr weu a M r):C w9z a M=some r:=z8c rfl rfl h
theorem w2w(h:Wr wev a M r):C wa0 a M=some r:=z8c rfl rfl h
theorem w2g(h:Wr we8 a M r):C w9d a M=some r:=z8c rfl rfl h
theorem w2e(h:Wr we6 a M r):C w9b a M=some r:=z8c rfl rfl h
theorem w25(h:Wr wdx a M r):C w92 a M=some r:=z8c rfl rfl h
theorem w29(h:Wr we1 a M r):C w96 a M=some r:=z8c rfl rfl h
theorem w2d(h:Wr we5 a M r):C w9a a M=some r:=z8c rfl rfl h
theorem w24(h:Wr wdw a M r):C w91 a M=some r:=z8c rfl rfl h
theorem w2n(h:Wr wem a M r):C w9r a M=some r:=z8c rfl rfl h
theorem w2b(h:Wr we3 a M r):C w98 a M=some r:=z8c rfl rfl h
theorem w22(h:Wr wdu a M r):C w8z a M=some r:=z8c rfl rfl h
theorem w2c(h:Wr we4 a M r):C w99 a M=some r:=z8c rfl rfl h
theorem w23(h:Wr wdv a M r):C w90 a M=some r:=z8c rfl rfl h
theorem w1n(h:Wr wdc a M r):C w8g a M=some r:=z8c rfl rfl h
theorem w1o(h:Wr wdd a M r):C w8h a M=some r:=z8c rfl rfl h
theorem w1m(h:Wr wdb a M r):C w8f a M=some r:=z8c rfl rfl h
theorem w0z(h:Wr wco a M r):C w7s a M=some r:=z8c rfl rfl h
theorem w1b(h:Wr wd0 a M r):C w84 a M=some r:=z8c rfl rfl h
theorem w1c(h:Wr wd1 a M r):C w85 a M=some r:=z8c rfl rfl h
theorem w11(h:Wr wcq a M r):C w7u a M=some r:=z8c rfl rfl h
theorem w10(h:Wr wcp a M r):C w7t a M=some r:=z8c rfl rfl h
theorem w0p(h:Wr wce a M r):C w7i a M=some r:=z8c rfl rfl h
theorem w0s(h:Wr wch a M r):C w7l a M=some r:=z8c rfl rfl h
theorem w0b(h:Wr wc0 a M r):C w74 a M=some r:=z8c rfl rfl h
theorem w1y(h:Wr wdn a M r):C w8s a M=some r:=z8c rfl rfl h
theorem w0a(h:Wr wbz a M r):C w73 a M=some r:=z8c rfl rfl h
theorem w0r(h:Wr wcg a M r):C w7k a M=some r:=z8c rfl rfl h
theorem w0q(h:Wr wcf a M r):C w7j a M=some r:=z8c rfl rfl h
theorem w0c(h:Wr wc1 a M r):C w75 a M=some r:=z8c rfl rfl h
theorem w1z(h:Wr wdo a M r):C w8t a M=some r:=z8c rfl rfl h
theorem w0l(h:Wr wca a M r):C w7e a M=some r:=z8c rfl rfl h
theorem w13(h:Wr wcs a M r):C w7w a M=some r:=z8c rfl rfl h
theorem w0j(h:Wr wc8 a M r):C w7c a M=some r:=z8c rfl rfl h
theorem w0e(h:Wr wc3 a M r):C w77 a M=some r:=z8c rfl rfl h
theorem w1v(h:Wr wdk a M r):C w8p a M=some r:=z8c rfl rfl h
theorem w21(h:Wr wdq a M r):C w8v a M=some r:=z8c rfl rfl h
theorem w0d(h:Wr wc2 a M r):C w76 a M=some r:=z8c rfl rfl h
theorem w09(h:Wr wby a M r):C w72 a M=some r:=z8c rfl rfl h
theorem w1p(h:Wr wde a M r):C w8j a M=some r:=z8c rfl rfl h
theorem w08(h:Wr wbx a M r):C w71 a M=some r:=z8c rfl rfl h
theorem w0i(h:Wr wc7 a M r):C w7b a M=some r:=z8c rfl rfl h
theorem w00(h:Wr wbp a M r):C w6t a M=some r:=z8c rfl rfl h
theorem w1k(h:Wr wd9 a M r):C w8d a M=some r:=z8c rfl rfl h
theorem w1j(h:Wr wd8 a M r):C w8c a M=some r:=z8c rfl rfl h
theorem wf5{es:List PV}(h:es.length≤68719476736):C w8i [.sl true 1 es] []=some (.un t_int true 1 es,[]):=zpz (e:=w6r) rfl (by simp [w6r,zfe,h])
end Go.Proofs.YtbaclnecajkknaaGreat.Pi

