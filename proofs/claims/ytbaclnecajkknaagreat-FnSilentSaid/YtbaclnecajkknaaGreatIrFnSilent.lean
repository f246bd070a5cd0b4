/- The forms of the functions that the law reaches, and their oracle. Definitions alone; no condition. -/
import Derived.Test.YtbaclnecajkknaaGreatPiExt
namespace Go.Proofs.YtbaclnecajkknaaGreat.Pi
open Go
set_option linter.all false
abbrev t_int:TypeId:=3
abbrev wgd:TypeId:=4
abbrev wgh:TypeId:=26
abbrev wgg:TypeId:=28
abbrev wgk:TypeId:=31
abbrev wgi:TypeId:=69
abbrev wgn:TypeId:=79
abbrev wge:TypeId:=108
abbrev wgj:TypeId:=119
abbrev wgf:TypeId:=191
abbrev wgm:TypeId:=195
abbrev wgl:TypeId:=220
abbrev w79:FuncId:=7
abbrev w8z:FuncId:=174
abbrev w91:FuncId:=91
abbrev w90:FuncId:=108
abbrev w8s:FuncId:=221
abbrev w8r:FuncId:=124
abbrev w93:FuncId:=157
abbrev w95:FuncId:=136
abbrev w8n:FuncId:=222
abbrev w8l:FuncId:=256
abbrev w8m:FuncId:=257
abbrev w8k:FuncId:=223
abbrev w99:FuncId:=170
abbrev w9b:FuncId:=171
abbrev w8e:FuncId:=84
abbrev w9j:FuncId:=243
abbrev w9h:FuncId:=244
abbrev w9i:FuncId:=245
abbrev w8f:FuncId:=213
abbrev w94:FuncId:=112
abbrev w8b:FuncId:=135
abbrev w8i:FuncId:=158
abbrev w9a:FuncId:=113
abbrev w8v:FuncId:=122
abbrev w92:FuncId:=123
abbrev w8u:FuncId:=54
abbrev w8w:FuncId:=73
abbrev w9k:FuncId:=137
abbrev w8h:FuncId:=74
abbrev w8t:FuncId:=55
abbrev w98:FuncId:=66
abbrev w8p:FuncId:=85
abbrev w8d:FuncId:=101
abbrev w9g:FuncId:=180
abbrev w9d:FuncId:=214
abbrev w9e:FuncId:=138
abbrev w88:FuncId:=159
abbrev w9f:FuncId:=139
abbrev w8a:FuncId:=160
abbrev w97:FuncId:=92
abbrev w8x:FuncId:=161
abbrev w8y:FuncId:=75
abbrev w86:FuncId:=19
abbrev w77:FuncId:=69
abbrev w71:FuncId:=237
abbrev w6u:FuncId:=83
abbrev w6v:FuncId:=169
abbrev w6p:FuncId:=168
abbrev w7m:FuncId:=236
abbrev w7i:FuncId:=167
abbrev w6o:FuncId:=82
abbrev w6n:FuncId:=97
abbrev w74:FuncId:=86
abbrev w7g:FuncId:=71
abbrev w73:FuncId:=173
abbrev w7n:FuncId:=238
abbrev w7j:FuncId:=172
abbrev w72:FuncId:=88
abbrev w6y:FuncId:=151
abbrev w70:FuncId:=90
abbrev w7l:FuncId:=179
abbrev w6s:FuncId:=207
abbrev w7o:FuncId:=130
abbrev w6r:FuncId:=127
abbrev w6z:FuncId:=107
abbrev w6k:FuncId:=40
abbrev w76:FuncId:=76
abbrev w6m:FuncId:=23
abbrev w7p:FuncId:=162
abbrev w7k:FuncId:=77
abbrev w7e:FuncId:=232
abbrev w7f:FuncId:=233
abbrev w7d:FuncId:=164
abbrev w7u:FuncId:=224
abbrev w84:FuncId:=258
abbrev w7t:FuncId:=225
abbrev w7x:FuncId:=259
abbrev w85:FuncId:=260
abbrev w7r:FuncId:=226
abbrev w7y:FuncId:=268
abbrev w7w:FuncId:=262
abbrev w7v:FuncId:=261
abbrev w7s:FuncId:=227
abbrev w83:FuncId:=228
abbrev w7z:FuncId:=229
abbrev w81:FuncId:=230
abbrev w80:FuncId:=231
abbrev w82:FuncId:=163
abbrev w7q:FuncId:=78
abbrev w6j:FuncId:=234
abbrev w6i:FuncId:=165
abbrev w7h:FuncId:=79
abbrev w6q:FuncId:=20
abbrev w9m:FuncId:=235
abbrev w9c:FuncId:=142
abbrev w9o:FuncId:=64
abbrev w9n:FuncId:=60
abbrev w89:FuncId:=166
abbrev w9l:FuncId:=80
abbrev w8c:FuncId:=24
abbrev w8o:FuncId:=81
abbrev w8q:FuncId:=147
abbrev w96:FuncId:=65
abbrev w8g:FuncId:=21
abbrev w7b:FuncId:=30
abbrev w7c:FuncId:=22
abbrev w7a:FuncId:=25
abbrev w75:FuncId:=87
abbrev w6x:FuncId:=89
abbrev w6l:FuncId:=26
abbrev w87:FuncId:=27
abbrev w6w:FuncId:=93
abbrev w6t:FuncId:=28
abbrev w8j:FuncId:=29
abbrev w78:FuncId:=4
def w6g:List PV→Option PV:=zfe t_int true 1
@[go_sem] abbrev jn(o:IOp):IOper:=⟨none,o,none⟩
@[go_sem] abbrev js(k:Nat)(o:IOp):IOper:=⟨some k,o,none⟩
@[go_sem] abbrev jt(j:Nat)(o:IOp):IOper:=⟨none,o,some (j,true)⟩
@[go_sem] abbrev jf(j:Nat)(o:IOp):IOper:=⟨none,o,some (j,false)⟩
@[go_sem] abbrev jr(l:List IOper):ICode:=.region false [] l
@[go_sem] abbrev jc(n:Int):Opd:=.c (.int .i64 n)
@[go_sem] abbrev q0(a:Nat):IOper:=jn (.mov (.v a))
@[go_sem] abbrev q1(a:Nat)(b:Nat):IOper:=js a (.mov (.r b))
@[go_sem] abbrev q2(a:Nat)(b:Nat):IOper:=jn (.load false a (.r b))
@[go_sem] abbrev q3(a:Nat)(b:Nat)(c:Nat):IOper:=jn (.iaddr a (.r b) (.r c))
@[go_sem] abbrev q4(a:Nat):IOper:=js a (.mov (.c (.bool false)))
@[go_sem] abbrev q5(a:Nat)(b:Int):IOper:=jn (.bin false .add (.r a) (jc b))
@[go_sem] abbrev q6(a:Nat)(b:Int):IOper:=jn (.bin false .sub (.r a) (jc b))
@[go_sem] abbrev q7(a:Nat)(b:Int):IOper:=js a (.mov (jc b))
@[go_sem] abbrev q8(a:Nat)(b:Nat):IOper:=jn (.faddr a (.v b))
@[go_sem] abbrev q9(a:Nat)(b:Nat):IOper:=jt a (.mov (.v b))
@[go_sem] abbrev qa(a:Nat)(b:Nat)(c:Nat):IOper:=js a (.bin false .lss (.v b) (.v c))
@[go_sem] abbrev qb(a:Nat)(b:Nat)(c:Nat):IOper:=jn (.store a (.r b) (.r c))
@[go_sem] abbrev qc(a:Nat):IOper:=jn (.mov (.r a))
@[go_sem] abbrev qd(a:Nat)(b:Int):IOper:=jn (.bin false .add (.v a) (jc b))
@[go_sem] abbrev qe(a:Nat)(b:Nat):IOper:=jn (.extract (.r a) b)
@[go_sem] abbrev qf(a:Nat)(b:Nat):IOper:=jn (.faddr a (.r b))
@[go_sem] abbrev qg(a:Nat)(b:Nat)(c:Nat):IOper:=jn (.store a (.v b) (.r c))
@[go_sem] abbrev qh(a:Nat)(b:Nat):IOper:=js a (.nilrow t_int true b)
@[go_sem] abbrev qi(a:Nat)(b:Nat):IOper:=jn (.pick (.r a) (.r b) (.c (.bool false)))
@[go_sem] abbrev qj(a:Nat)(b:Nat):IOper:=jn (.load true a (.v b))
@[go_sem] abbrev qk(a:Nat)(b:Nat)(c:Nat):IOper:=jt a (.load false b (.r c))
@[go_sem] abbrev ql(a:Nat):IOper:=js a (.mov (.c (.bool true)))
@[go_sem] abbrev qm(a:Nat)(b:Nat):IOper:=jn (.bslice false t_int true a [(.r b)])
@[go_sem] abbrev qn(a:Nat)(b:Nat)(c:Nat):IOper:=js a (.pick (.r b) (.r c) (.c (.bool false)))
@[go_sem] abbrev qo(a:Nat)(b:Nat)(c:Nat):IOper:=jn (.iaddr a (.v b) (.v c))
@[go_sem] abbrev qp(a:Nat):IOper:=jn (.ncheck (.r a))
@[go_sem] abbrev qq(a:Nat)(b:Nat)(c:Nat):IOper:=jf a (.load false b (.r c))
@[go_sem] abbrev qr(a:Nat)(b:Nat)(c:Nat):IOper:=js a (.pick (.r b) (.c (.bool true)) (.r c))
@[go_sem] abbrev qs(a:Nat)(b:Nat):IOper:=js a (.len false (.v b))
@[go_sem] abbrev qt(a:Nat)(b:Nat)(c:Nat)(d:Nat):IOper:=jt a (.iaddr b (.r c) (.r d))
@[go_sem] abbrev qu(a:Nat):IOper:=jn (.len false (.r a))
@[go_sem] abbrev qv(a:Nat)(b:Nat):IOper:=jn (.pick (.r a) (.c (.bool true)) (.r b))
@[go_sem] abbrev qw(a:Nat)(b:Int)(c:Nat)(d:Int)(e:Int):IOper:=js a (.alloc wgg [(.int .i64 b),(.nil false c),(.int .i64 d),(.int .i64 e)])
@[go_sem] abbrev qx(a:Nat)(b:Nat)(c:Nat):IOper:=js a (.alloc wgi [(.nil false b),(.nil true c)])
@[go_sem] abbrev qy(a:Nat)(b:Nat)(c:Nat):IOper:=js a (.box wgh b (.v c))
@[go_sem] abbrev qz(a:Nat)(b:Nat):IOper:=jn (.bin false .add (.r a) (.r b))
@[go_sem] abbrev q36_(a:Nat)(b:Nat):IOper:=jf a (.mov (.v b))
@[go_sem] abbrev q37_(a:Nat)(b:Nat)(c:Nat):IOper:=jn (.append t_int true a (.r b) (.r c))
@[go_sem] abbrev q38_(a:Nat)(b:Int):IOper:=jn (.bin false .eql (.v a) (jc b))
@[go_sem] abbrev q39_(a:Nat)(b:Nat)(c:Nat):IOper:=jf a (.faddr b (.v c))
@[go_sem] abbrev q40_(a:Nat)(b:Nat)(c:Nat):IOper:=js a (.load false b (.r c))
@[go_sem] abbrev q41_(a:Nat)(b:Nat)(c:Nat):IOper:=js a (.bin false .lss (.r b) (.r c))
@[go_sem] abbrev q42_(a:Nat)(b:Nat)(c:Nat)(d:Nat)(e:Nat):IOper:=jn (.callm w8k [(.r a),(.r b),(.r c),(.r d),(.r e)])
@[go_sem] abbrev q43_(a:Nat)(b:Nat)(c:Nat)(d:Nat)(e:Nat):IOper:=jn (.callm w8v [(.r a),(.r b),(.r c),(.r d),(.r e)])
@[go_sem] abbrev q44_(a:Nat)(b:Nat):IOper:=jn (.load true a (.r b))
@[go_sem] abbrev q45_(a:Nat)(b:Nat):IOper:=jn (.bin false .sub (.r a) (.r b))
@[go_sem] abbrev q46_(a:Nat)(b:Nat)(c:Nat)(d:Nat):IOper:=jt a (.callv false (.r b) [(.r c),(.r d)])
@[go_sem] abbrev q47_(a:Nat)(b:Nat)(c:Nat)(d:Nat):IOper:=js a (.alloc wgj [(.nil true b),(.nil true c),(.nil true d)])
@[go_sem] abbrev q48_(a:Nat)(b:Nat):IOper:=js a (.mov (.v b))
@[go_sem] abbrev q49_(a:Nat)(b:Nat)(c:Int):IOper:=jt a (.bin false .lss (.r b) (jc c))
@[go_sem] abbrev q50_(a:Nat)(b:Nat):IOper:=jn (.callm w91 [(.r a),(.r b)])
@[go_sem] abbrev q51_(a:Nat)(b:Int):IOper:=jn (.bin false .shr (.r a) (.c (.int .u64 b)))
@[go_sem] abbrev q52_(a:Nat)(b:Nat):IOper:=jn (.bslice false wgk false a [(.r b)])
@[go_sem] abbrev q53_(a:Nat)(b:Nat):IOper:=js a (.not (.r b))
@[go_sem] abbrev q54_(a:Nat)(b:Nat)(c:Nat):IOper:=jt a (.faddr b (.v c))
@[go_sem] abbrev q55_(a:Nat)(b:Nat):IOper:=jn (.store a (.r b) (.c (.bool true)))
@[go_sem] abbrev q56_(a:Nat)(b:Int):IOper:=jn (.bin false .eql (.r a) (jc b))
@[go_sem] abbrev q57_(a:Nat)(b:Nat):IOper:=jt a (.len false (.r b))
@[go_sem] abbrev q58_(a:Nat)(b:Nat):IOper:=jf a (.not (.r b))
@[go_sem] abbrev q59_(a:Nat)(b:Nat)(c:Int):IOper:=js a (.bin false .geq (.r b) (jc c))
@[go_sem] abbrev q60_(a:Nat)(b:Int):IOper:=jn (.callm w91 [(.r a),(jc b)])
@[go_sem] abbrev q61_(a:Nat)(b:Nat):IOper:=jn (.build [(.nil false a),(.nil true b)] [])
@[go_sem] abbrev q62_(a:Nat)(b:Nat):IOper:=js a (.len false (.r b))
@[go_sem] abbrev q63_(a:Nat)(b:Nat)(c:Int):IOper:=js a (.bin false .gtr (.r b) (jc c))
@[go_sem] abbrev q64_(a:Nat)(b:Nat)(c:Int):IOper:=jf a (.bin false .sub (.r b) (jc c))
@[go_sem] abbrev q65_(a:Nat)(b:Nat)(c:Nat):IOper:=js a (.bin false .neq (.r b) (.r c))
@[go_sem] abbrev q66_(a:Nat)(b:Int)(c:Nat):IOper:=js a (.alloc wgh [(.int .i64 b),(.nil false c)])
@[go_sem] abbrev q67_(a:Nat)(b:Int):IOper:=jn (.bin false .quo (.r a) (jc b))
@[go_sem] abbrev q68_(a:Nat)(b:Nat):IOper:=jf a (.len false (.r b))
@[go_sem] abbrev q69_(a:Nat)(b:Nat)(c:Nat):IOper:=jn (.append wgk false a (.r b) (.r c))
@[go_sem] abbrev q70_(a:Nat)(b:Nat)(c:Nat):IOper:=jf a (.load true b (.v c))
@[go_sem] abbrev q71_(a:Nat)(b:Nat)(c:Int):IOper:=jt a (.bin false .eql (.r b) (jc c))
@[go_sem] abbrev q72_(a:Nat)(b:Nat)(c:Int):IOper:=jt a (.bin false .sub (.r b) (jc c))
@[go_sem] abbrev q73_(a:Nat)(b:Nat)(c:Nat):IOper:=jt a (.bin false .eql (.r b) (.r c))
@[go_sem] abbrev q74_(a:Nat)(b:Nat)(c:Nat):IOper:=js a (.bin false .gtr (.r b) (.r c))
@[go_sem] abbrev q75_(a:Nat)(b:Int):IOper:=jn (.bin false .mul (.r a) (jc b))
@[go_sem] abbrev q76_(a:Nat)(b:Nat):IOper:=jn (.bin false .leq (.r a) (.r b))
@[go_sem] abbrev q77_(a:Nat)(b:Nat):IOper:=jn (.mk wgd true a (.bool false) (.r b))
@[go_sem] abbrev q78_(a:Nat)(b:Nat):IOper:=js a (.nilrow wgk false b)
@[go_sem] abbrev q79_(a:Nat):IOper:=jn (.not (.r a))
@[go_sem] abbrev q80_(a:Nat)(b:Nat)(c:Nat)(d:Int):IOper:=jn (.callm w8l [(.r a),(.r b),(.r c),(jc d)])
@[go_sem] abbrev q81_(a:Nat)(b:Nat)(c:Nat):IOper:=jn (.append wgj false a (.r b) (.r c))
@[go_sem] abbrev q82_(a:Nat)(b:Nat)(c:Int):IOper:=js a (.bin false .eql (.r b) (jc c))
@[go_sem] abbrev q83_(a:Nat)(b:Nat)(c:Int):IOper:=jf a (.bin false .gtr (.r b) (jc c))
@[go_sem] abbrev q84_(a:Nat)(b:Nat):IOper:=jt a (.not (.r b))
@[go_sem] abbrev q85_(a:Nat)(b:Nat)(c:Nat):IOper:=js a (.bin false .geq (.r b) (.r c))
@[go_sem] abbrev q86_(a:Nat)(b:Nat)(c:Int):IOper:=js a (.bin false .lss (.r b) (jc c))
@[go_sem] abbrev q87_(a:Nat):IOper:=js a (.mov (jc (-1)))
@[go_sem] abbrev q88_(a:Nat)(b:Nat)(c:Nat)(d:Nat):IOper:=jf a (.iaddr b (.r c) (.r d))
def wba:IFun:=⟨[0,1,4],
 (.seq (jr [q4 2])
 (.seq (jr [q0 0,qu 0,jn (.bin false .gtr (.r 1) (jc 1048576)),qc 2,q36_ 3 1,q68_ 3 4,q36_ 3 0,q68_ 3 6,jf 3 (.bin false .sub (jc 1048576) (.r 7)),jf 3 (.bin false .gtr (.r 5) (.r 8)),qv 3 9,q1 2 10])
 .ret)),
 [.v 2]⟩
def wcz:IFun:=⟨[0,2,3,13,53],
 (.seq (jr [q7 1 0])
 (.seq (jr [q7 2 0])
 (.seq (.seq (.region true [] [q0 0,qp 0,qf 1 1,q2 1 2,q0 0,qp 4,qf 0 5,q2 1 6,qu 7,q41_ 3 3 8])
 (.cond (.v 3) (.region true [] [q0 0,qp 0,qf 0 1,q2 1 2,q0 0,qp 4,qf 1 5,q2 1 6,q3 1 3 7,q2 1 8,jn (.conv .i64 (.r 9)),q1 2 10]) .skip))
 (.seq (jr [q0 0,qp 0,qf 1 1,q2 1 2,q5 3 1,qp 0,qf 1 5,qb 1 6 4])
 (.seq (jr [q0 0,q0 0,qp 1,qf 2 2,q2 1 3,jn (.bin false .mul (.r 4) (.c (.int .u64 6364136223846793005))),q0 2,jn (.conv .u64 (.r 6)),qz 5 7,jn (.bin false .add (.r 8) (.c (.int .u64 1442695040888963407))),qp 0,qf 2 10,qb 1 11 9])
 (.seq (.seq (.region true [] [q0 0,qp 0,qf 1 1,q2 1 2,q0 0,qp 4,qf 0 5,q2 1 6,qu 7,js 4 (.bin false .leq (.r 3) (.r 8))])
 (.cond (.v 4) (.seq (jr [q0 2,q1 1 0])
 .ret) .skip))
 (.seq (jr [q0 0,qp 0,qf 2 1,q2 1 2,q51_ 3 40,jn (.bin false .and (.r 4) (.c (.int .u64 255))),jn (.conv .i64 (.r 5)),q1 1 6])
 .ret))))))),
 [.v 1]⟩
def wd1:IFun:=⟨[0,1,4,5,7,11],
 (.seq (jr [q7 2 0])
 (.seq (.seq (jr [q0 1,js 4 (.bin false .leq (.r 0) (jc 1))])
 (.cond (.v 4) (.seq (jr [q7 2 0])
 .ret) .skip))
 (.seq (jr [q0 0,jn (.callm w8z [(.r 0)]),q1 3 1])
 (.seq (.seq (jr [q0 1,q63_ 5 0 200])
 (.cond (.v 5) (jr [q0 3,q75_ 0 256,q0 0,jn (.callm w8z [(.r 2)]),qz 1 3,q1 3 4]) .skip))
 (.seq (jr [q0 3,q0 1,jn (.bin false .rem (.r 0) (.r 1)),q1 2 2])
 .ret))))),
 [.v 2]⟩
def wd0:IFun:=⟨[0,1,4],
 (.seq (jr [q4 2])
 (.seq (jr [q0 0,q0 1,q50_ 0 1,q56_ 2 0,q1 2 3])
 .ret)),
 [.v 2]⟩
def wcs:IFun:=⟨[0,1,4,5,11],
 (.seq (jr [js 2 (.nilrow wgf true 2)])
 (.seq (.seq (jr [q0 1,q56_ 0 0,qc 1,q36_ 2 0,jf 2 (.callm w90 [(.r 3),(jc 5)]),qr 4 2 4])
 (.cond (.v 4) (.seq (jr [q0 0,q60_ 0 4,jn (.bin false .add (jc 1) (.r 1)),jn (.build [(.int .i64 0),(.int .i64 0)] [(0,1,(jc 1)),(1,1,(.r 2))]),jn (.bslice false wgf true 2 [(.r 3)]),q1 2 4])
 .ret) .skip))
 (.seq (jr [q0 0,q0 1,q6 1 1,jn (.callm w8s [(.r 0),(.r 2)]),q0 0,q0 1,q6 5 1,jn (.callm w8s [(.r 4),(.r 6)]),jn (.append wgf true 2 (.r 3) (.r 7)),q1 3 8])
 (.seq (jr [q0 3,q0 0,q60_ 1 4,jn (.bin false .add (jc 2) (.r 2)),jn (.build [(.int .i64 0),(.int .i64 0)] [(0,1,(.r 3))]),jn (.bslice false wgf true 2 [(.r 4)]),jn (.append wgf true 2 (.r 0) (.r 5)),q1 2 6])
 .ret)))),
 [.v 2]⟩
def wcr:IFun:=⟨[0,1,4],
 (.seq (jr [q7 2 0])
 (.seq (jr [q0 1,q0 0,q0 1,qu 2,q50_ 1 3,q3 1 0 4,q2 1 5,q1 2 6])
 .ret)),
 [.v 2]⟩
def wd3:IFun:=⟨[0,2,3,10,14,15,23,27],
 (.seq (jr [js 1 (.nilrow wgf true 2)])
 (.seq (jr [q0 0,q0 0,q60_ 1 3,jn (.bin false .add (jc 1) (.r 2)),jn (.callm w8s [(.r 0),(.r 3)]),q1 2 4])
 (.seq (.seq (jr [q0 0,js 3 (.callm w90 [(.r 0),(jc 4)])])
 (.cond (.v 3) (jr [q0 0,jn (.callm w8s [(.r 0),(jc 2)]),q1 2 1]) .skip))
 (.seq (.seq (jr [q0 0,js 4 (.callm w91 [(.r 0),(jc 40)])])
 (.block 0 (.seq (jr [q38_ 4 0,q1 5 0])
 (.cond (.v 5) (jr [q0 2,q0 0,jn (.bslice false t_int true 1 [(jc 0),(jc 9),(jc 10)]),jn (.callm w8r [(.r 1),(.r 2)]),jn (.iaddr 2 (.r 0) (jc 0)),qf 1 4,qb 1 5 3]) (.seq (jr [q38_ 4 1,q1 6 0])
 (.cond (.v 6) (jr [q0 2,jn (.slice 2 (.r 0) (some (jc 1)) none),q1 2 1]) (.seq (jr [q38_ 4 2,q1 7 0])
 (.cond (.v 7) (jr [q0 2,q0 2,qu 1,q6 2 1,q0 0,q60_ 4 8,q3 2 0 3,qf 0 6,qb 1 7 5]) .skip))))))))
 (.seq (jr [q0 2,q1 1 0])
 .ret))))),
 [.v 1]⟩
def wd5:IFun:=⟨[0,1,2,6],
 (.seq (jr [q4 3])
 (.seq (jr [q0 0,q0 1,jn (.bin false .geq (.r 0) (.r 1)),qc 2,q9 3 0,q9 3 2,jt 3 (.bin false .leq (.r 4) (.r 5)),qi 3 6,q1 3 7])
 .ret)),
 [.v 3]⟩
def wcn:IFun:=⟨[0,2,3,5,9,10,11,12,13,16,27],
 (.seq (jr [q4 1])
 (.seq (.seq (jr [q0 0,qu 0,jn (.call false w95 [(.r 1),(jc 1),(jc 15)]),q53_ 4 2])
 (.cond (.v 4) (.seq (jr [q4 1])
 .ret) .skip))
 (.seq (jr [q7 2 0])
 (.seq (.seq (jr [q48_ 5 0,qs 6 5,q7 7 0])
 (.block 0 (.loop [false,false,true,false,false,true,true,true,false,false,false] (.seq (jr [qa 8 7 6])
 (.seq (.cond (.v 8) .skip (.exit 0))
 (.seq (.block 1 (.seq (jr [qo 2 5 7,q44_ 2 0,js 3 (.alloc wgf [(.int .i64 0),(.int .i64 0)]),qg 2 3 1])
 (.block 2 (.seq (jr [q8 0 3,q2 1 0,q56_ 1 1,qc 2,q54_ 3 1 3,qk 3 1 4,jt 3 (.call false w95 [(.r 5),(jc 1),(jc 9)]),qi 3 6,q1 9 7])
 (.cond (.v 9) (jr [q0 2,q5 0 1,q1 2 1]) (.seq (jr [q8 0 3,q2 1 0,jn (.call false w95 [(.r 1),(jc 2),(jc 5)]),qc 2,q54_ 3 1 3,qk 3 1 4,q71_ 3 5 0,qi 3 6,qc 7,q9 8 2,jt 8 (.bin false .geq (.r 9) (jc 2)),qi 8 10,q1 10 11])
 (.cond (.v 10) (jr [q0 2,q6 0 1,q1 2 1]) (.seq (jr [q4 1])
 .ret))))))))
 (jr [qd 7 1,q1 7 0])))))))
 (.seq (jr [q0 2,q56_ 0 1,q1 1 1])
 .ret))))),
 [.v 1]⟩
def wcl:IFun:=⟨[0,1,2,3],
 (.seq (jr [q0 0,q0 0,qp 1,qf 0 2,qf 1 3,q2 1 4,q0 1,q0 2,jn (.build [(.nil true 1),(.nil true 1),(.nil true 1)] [(0,1,(.r 6)),(1,1,(.r 7))]),jn (.bslice false wgj false 3 [(.r 8)]),q81_ 3 5 9,qp 0,qf 0 11,qf 1 12,qb 1 13 10])
 (jr [q0 0,q0 0,qp 1,qf 2 2,q2 1 3,q0 3,qm 1 5,q37_ 1 4 6,qp 0,qf 2 8,qb 1 9 7])),
 []⟩
def wcm:IFun:=⟨[0,1,4,5,6,10,18],
 (.seq (jr [q7 2 0])
 (.seq (jr [q7 3 1])
 (.seq (jr [q0 1,q6 0 1,q1 4 1])
 (.seq (.block 0 (.loop [true,false,false,true,true,false,false] (.seq (.seq (jr [q0 3,q63_ 5 0 0])
 (.cond (.v 5) .skip (.exit 0)))
 (.block 1 (.seq (jr [q0 3,q6 0 1,q1 3 1])
 (.seq (.seq (jr [q0 0,q0 4,q3 2 0 1,qf 0 2,q2 1 3,js 6 (.bin false .neq (.r 4) (jc 1))])
 (.cond (.v 6) (jr [q0 3,q5 0 2,q1 3 1]) .skip))
 (jr [q0 4,q6 0 1,q1 4 1])))))))
 (.seq (jr [q0 4,q1 2 0])
 .ret))))),
 [.v 2]⟩
def wck:IFun:=⟨[0,1,2,3,4,10,11,12,19,37,75,99,114],
 (.seq (jr [q0 1,q0 2,q3 2 0 1,q44_ 2 2,js 5 (.alloc wgf [(.int .i64 0),(.int .i64 0)]),qg 2 5 3])
 (.seq (.seq (jr [q8 0 5,q2 1 0,q82_ 8 1 1])
 (.cond (.v 8) (.seq (jr [q0 0,q0 3,qm 1 1,q0 4,qm 1 3,q8 1 5,q2 1 5,jn (.callm w8l [(.r 0),(.r 2),(.r 4),(.r 6)])])
 .ret) .skip))
 (.seq (jr [q0 1,q0 2,jn (.call false w8m [(.r 0),(.r 1)]),q1 6 2])
 (.seq (jr [q0 0,qp 0,qf 0 1,qf 0 2,q2 1 3,q1 7 4])
 (.seq (jr [q8 0 5,q40_ 9 1 0])
 (.block 0 (.seq (jr [q38_ 9 2,q1 10 0])
 (.cond (.v 10) (.seq (jr [q0 0,qp 0,qf 0 1,qf 0 2,q2 1 3,q5 4 1,qp 0,qf 0 6,qf 0 7,qb 1 8 5])
 (.seq (jr [q0 0,q0 1,q0 6,q0 3,q0 7,q42_ 0 1 2 3 4])
 (jr [q0 0,q0 1,q0 2,q6 2 1,q0 7,q0 4,q42_ 0 1 3 4 5]))) (.seq (jr [q38_ 9 3,q1 11 0])
 (.cond (.v 11) (.seq (jr [q0 0,q0 1,q0 6,q0 3,q0 4,q42_ 0 1 2 3 4])
 (jr [q0 0,q0 1,q0 2,q6 2 1,q0 3,q0 4,q42_ 0 1 3 4 5])) (.seq (jr [q38_ 9 4,q1 12 0])
 (.cond (.v 12) (.seq (jr [q0 0,qp 0,qf 0 1,qf 0 2,q2 1 3,q5 4 4,qp 0,qf 0 6,qf 0 7,qb 1 8 5])
 (.seq (jr [q0 0,q0 3,qm 1 1,q0 7,q0 7,q5 4 1,jn (.bslice false t_int true 1 [(.r 3),(.r 5)]),q80_ 0 2 6 0])
 (.seq (jr [q0 0,q0 7,q5 1 2,q0 7,q5 3 3,jn (.bslice false t_int true 1 [(.r 2),(.r 4)]),q0 4,qm 1 6,q80_ 0 5 7 0])
 (.seq (jr [q0 0,q0 1,q0 6,q0 7,q0 7,q5 4 2,q42_ 0 1 2 3 5])
 (jr [q0 0,q0 1,q0 2,q6 2 1,q0 7,q5 4 1,q0 7,q5 6 3,q42_ 0 1 3 5 7]))))) (.seq (jr [q0 0,qp 0,qf 0 1,qf 0 2,q2 1 3,q5 4 2,qp 0,qf 0 6,qf 0 7,qb 1 8 5])
 (.seq (jr [q0 0,q0 3,qm 1 1,q0 7,qm 1 3,q80_ 0 2 4 0])
 (.seq (jr [q0 0,q0 7,q5 1 1,qm 1 2,q0 4,qm 1 4,q80_ 0 3 5 0])
 (.seq (jr [q0 0,q0 1,q0 6,q0 7,q0 7,q5 4 1,q42_ 0 1 2 3 5])
 (jr [q0 0,q0 1,q0 2,q6 2 1,q0 7,q5 4 1,q0 7,q42_ 0 1 3 5 6]))))))))))))))))),
 []⟩
def wd9:IFun:=⟨[0,2],
 (.seq (jr [q4 1])
 (.seq (jr [q0 0,jn (.call false w95 [(.r 0),(jc 1),(jc 16)]),q1 1 1])
 .ret)),
 [.v 1]⟩
def wdb:IFun:=⟨[0,1,2,6,7,8,9,10,11,12,33],
 (.seq (jr [q4 3])
 (.seq (.seq (jr [q48_ 6 0,qs 7 6,q7 8 0])
 (.block 0 (.loop [true,true,true,false,false,false,true,true,true,false,false] (.seq (jr [qa 9 8 7])
 (.seq (.cond (.v 9) .skip (.exit 0))
 (.seq (.block 1 (.seq (jr [q0 8,qo 1 6 8,q2 1 1,q1 4 0,q1 5 2])
 (.seq (jr [q0 5,q0 1,q0 2,jn (.call false w95 [(.r 0),(.r 1),(.r 2)]),q79_ 3,qc 4,q36_ 5 4,q83_ 5 6 0,jf 5 (.mov (.r 7)),q9 8 0,q9 8 4,q72_ 8 10 1,qt 8 1 9 11,qk 8 1 12,q9 8 5,jt 8 (.bin false .geq (.r 13) (.r 14)),jf 5 (.pick (.r 8) (.r 15) (.c (.bool false))),qr 10 5 16])
 (.cond (.v 10) (.seq (jr [q4 3])
 .ret) .skip))))
 (jr [qd 8 1,q1 8 0])))))))
 (.seq (jr [ql 3])
 .ret))),
 [.v 3]⟩
def wce:IFun:=⟨[0,1,2,4,14,16,17,18,19,52],
 (.seq (jr [qy 1 2 0,q4 2])
 (.seq (.seq (jr [q8 0 1,q2 1 0,jn (.call false w99 [(.r 1)]),q79_ 2,qc 3,q39_ 4 1 1,qq 4 1 5,q68_ 4 6,q83_ 4 7 24,qr 4 4 8])
 (.cond (.v 4) (.seq (jr [q4 2])
 .ret) .skip))
 (.seq (.seq (jr [q8 1 1,q40_ 5 1 0,qs 6 5,q7 7 0])
 (.block 0 (.loop [false,true,false,false,false,true,true,true,false,false] (.seq (jr [qa 8 7 6])
 (.seq (.cond (.v 8) .skip (.exit 0))
 (.seq (.block 1 (.seq (jr [qo 3 5 7,q44_ 3 0,q47_ 3 1 1 1,qg 3 3 1])
 (.seq (jr [q8 0 3,q2 1 0,qu 1,q56_ 2 0,qc 3,q39_ 4 0 3,qq 4 1 5,q39_ 4 0 1,qq 4 1 7,q64_ 4 8 1,jf 4 (.call false w9b [(.r 6),(jc 0),(.r 9)]),q58_ 4 10,qv 4 11,qc 12,q39_ 13 1 3,qq 13 1 14,q39_ 13 0 1,qq 13 1 16,q64_ 13 17 1,jf 13 (.call false w9b [(.r 15),(jc 0),(.r 18)]),q58_ 13 19,qv 13 20,qc 21,q39_ 22 2 3,qq 22 1 23,q39_ 22 0 1,qq 22 1 25,q64_ 22 26 1,jf 22 (.call false w9b [(.r 24),(jc 0),(.r 27)]),q58_ 22 28,qr 9 22 29])
 (.cond (.v 9) (.seq (jr [q4 2])
 .ret) .skip))))
 (jr [qd 7 1,q1 7 0])))))))
 (.seq (jr [ql 2])
 .ret)))),
 [.v 2]⟩
def wdj:IFun:=⟨[0,1,2,4,5,6,7,8,9,10,11,13,15,26,28,29,30,31,36,37,38,39,57,62,63,64,65],
 (.seq (jr [qy 2 2 0,js 3 (.nilrow wgd true 1),js 4 (.nilrow wgd true 1)])
 (.seq (jr [q8 0 2,q2 1 0,q77_ 1 1,q1 5 2])
 (.seq (jr [q8 1 2,q2 1 0,qu 1,q77_ 1 2,q1 6 3])
 (.seq (jr [q0 5,q0 1,q3 1 0 1,q55_ 1 2])
 (.seq (.seq (jr [ql 7])
 (.block 0 (.loop [false,false,true,false,false,true,true,true,false,false,false,false,false,false,false,false,false,false,false,false,false,false,false,false,false,false,false] (.seq (.seq (jr [q48_ 13 7])
 (.cond (.v 13) .skip (.exit 0)))
 (.block 1 (.seq (jr [q4 7])
 (.seq (jr [q8 1 2,q40_ 14 1 0,qs 15 14,q7 16 0])
 (.block 2 (.loop [false,false,true,false,false,true,true,true,false,false,false,false,false,false,true,true,true,false,false,false,false,false,false,false,false,false,false] (.seq (jr [qa 17 16 15])
 (.seq (.cond (.v 17) .skip (.exit 2))
 (.seq (.block 3 (.seq (jr [q0 16,qo 3 14 16,q44_ 3 1,q47_ 9 1 1 1,q1 8 0,qg 3 9 2])
 (.seq (jr [q4 10])
 (.seq (.seq (jr [q8 0 9,q40_ 18 1 0,qs 19 18,q7 20 0])
 (.block 4 (.loop [false,false,true,false,false,true,true,true,true,true,true,false,false,false,true,true,true,false,true,true,true,false,false,false,false,false,false] (.seq (jr [qa 21 20 19])
 (.seq (.cond (.v 21) .skip (.exit 4))
 (.seq (.block 5 (.seq (jr [qo 1 18 20,q2 1 0,q1 11 1])
 (jr [q0 10,qc 0,q36_ 1 5,q36_ 1 11,q88_ 1 1 2 3,qq 1 1 4,qv 1 5,q1 10 6])))
 (jr [qd 20 1,q1 20 0])))))))
 (.seq (.seq (jr [q0 10,q79_ 0,qc 1,q36_ 2 6,q36_ 2 8,q88_ 2 1 3 4,qq 2 1 5,qr 22 2 6])
 (.cond (.v 22) (.exit 3) .skip))
 (.seq (jr [q0 6,q0 8,q3 1 0 1,q55_ 1 2])
 (.seq (jr [ql 7])
 (.seq (jr [q8 1 9,q40_ 23 1 0,qs 24 23,q7 25 0])
 (.block 6 (.loop [false,false,true,false,false,true,true,true,false,false,false,false,false,false,true,true,true,false,false,false,false,false,false,true,true,true,false] (.seq (jr [qa 26 25 24])
 (.seq (.cond (.v 26) .skip (.exit 6))
 (.seq (.block 7 (.seq (jr [qo 1 23 25,q2 1 0,q1 12 1])
 (jr [q0 5,q0 12,q3 1 0 1,q55_ 1 2])))
 (jr [qd 25 1,q1 25 0]))))))))))))))
 (jr [qd 16 1,q1 16 0])))))))))))))
 (.seq (jr [q0 5,q0 6,q1 3 0,q1 4 1])
 .ret)))))),
 [.v 3,.v 4]⟩
def wdh:IFun:=⟨[0,1,2,4,5,6,7,8,9,10,11,13,15,26,28,29,30,31,36,37,38,39,57,62,63,64,65],
 (.seq (jr [qy 2 2 0,js 3 (.nilrow wgd true 1),js 4 (.nilrow wgd true 1)])
 (.seq (jr [q8 0 2,q2 1 0,q77_ 1 1,q1 5 2])
 (.seq (jr [q8 1 2,q2 1 0,qu 1,q77_ 1 2,q1 6 3])
 (.seq (jr [q0 5,q0 1,q3 1 0 1,q55_ 1 2])
 (.seq (.seq (jr [ql 7])
 (.block 0 (.loop [false,false,true,false,false,true,true,true,false,false,false,false,false,false,false,false,false,false,false,false,false,false,false,false,false,false,false] (.seq (.seq (jr [q48_ 13 7])
 (.cond (.v 13) .skip (.exit 0)))
 (.block 1 (.seq (jr [q4 7])
 (.seq (jr [q8 1 2,q40_ 14 1 0,qs 15 14,q7 16 0])
 (.block 2 (.loop [false,false,true,false,false,true,true,true,false,false,false,false,false,false,true,true,true,false,false,false,false,false,false,false,false,false,false] (.seq (jr [qa 17 16 15])
 (.seq (.cond (.v 17) .skip (.exit 2))
 (.seq (.block 3 (.seq (jr [q0 16,qo 3 14 16,q44_ 3 1,q47_ 9 1 1 1,q1 8 0,qg 3 9 2])
 (.seq (jr [q4 10])
 (.seq (.seq (jr [q8 1 9,q40_ 18 1 0,qs 19 18,q7 20 0])
 (.block 4 (.loop [false,false,true,false,false,true,true,true,true,true,true,false,false,false,true,true,true,false,true,true,true,false,false,false,false,false,false] (.seq (jr [qa 21 20 19])
 (.seq (.cond (.v 21) .skip (.exit 4))
 (.seq (.block 5 (.seq (jr [qo 1 18 20,q2 1 0,q1 11 1])
 (jr [q0 10,qc 0,q36_ 1 5,q36_ 1 11,q88_ 1 1 2 3,qq 1 1 4,qv 1 5,q1 10 6])))
 (jr [qd 20 1,q1 20 0])))))))
 (.seq (.seq (jr [q0 10,q79_ 0,qc 1,q36_ 2 6,q36_ 2 8,q88_ 2 1 3 4,qq 2 1 5,qr 22 2 6])
 (.cond (.v 22) (.exit 3) .skip))
 (.seq (jr [q0 6,q0 8,q3 1 0 1,q55_ 1 2])
 (.seq (jr [ql 7])
 (.seq (jr [q8 0 9,q40_ 23 1 0,qs 24 23,q7 25 0])
 (.block 6 (.loop [false,false,true,false,false,true,true,true,false,false,false,false,false,false,true,true,true,false,false,false,false,false,false,true,true,true,false] (.seq (jr [qa 26 25 24])
 (.seq (.cond (.v 26) .skip (.exit 6))
 (.seq (.block 7 (.seq (jr [qo 1 23 25,q2 1 0,q1 12 1])
 (jr [q0 5,q0 12,q3 1 0 1,q55_ 1 2])))
 (jr [qd 25 1,q1 25 0]))))))))))))))
 (jr [qd 16 1,q1 16 0])))))))))))))
 (.seq (jr [q0 5,q0 6,q1 3 0,q1 4 1])
 .ret)))))),
 [.v 3,.v 4]⟩
def wdi:IFun:=⟨[0,1,4,5,6,8,9,10,21],
 (.seq (jr [qh 2 1])
 (.seq (jr [qh 3 1])
 (.seq (.seq (jr [q0 0,q62_ 5 0,q7 6 0])
 (.block 0 (.loop [true,true,false,true,false,true,true,false,false] (.seq (jr [qa 7 6 5])
 (.seq (.cond (.v 7) .skip (.exit 0))
 (.seq (.block 1 (.seq (jr [q0 6,q1 4 0])
 (.seq (jr [q0 0,q0 4,q3 1 0 1,q2 1 2,qc 3,q9 4 1,q9 4 4,qt 4 1 5 6,qk 4 1 7,qn 8 4 8])
 (.cond (.v 8) (jr [q0 3,q0 4,qm 1 1,q37_ 1 0 2,q1 3 3]) .skip))))
 (jr [qd 6 1,q1 6 0])))))))
 (.seq (jr [q0 3,q1 2 0])
 .ret)))),
 [.v 2]⟩
def wcf:IFun:=⟨[0,1,2,3,6,7,8,9,10,11,12,31],
 (.seq (jr [qy 3 2 0,qh 4 1,qh 5 1,q4 6])
 (.seq (.seq (jr [qj 2 3,jn (.call false w8e [(.r 0)]),q79_ 1,qc 2,q36_ 3 1,q39_ 3 0 3,qq 3 1 5,q64_ 3 6 1,jf 3 (.call false w95 [(.r 4),(jc 0),(.r 7)]),q58_ 3 8,qv 3 9,qc 10,q36_ 11 2,q39_ 11 0 3,qq 11 1 13,q64_ 11 14 1,jf 11 (.call false w95 [(.r 12),(jc 0),(.r 15)]),q58_ 11 16,qr 11 11 17])
 (.cond (.v 11) (.seq (jr [qh 4 1,qh 5 1,q4 6])
 .ret) .skip))
 (.seq (jr [qj 2 3,q0 1,jn (.call false w9j [(.r 0),(.r 1)]),qc 2,qe 3 0,qe 3 1,q1 7 4,q1 8 5])
 (.seq (jr [qj 2 3,q0 2,jn (.call false w9h [(.r 0),(.r 1)]),qc 2,qe 3 0,qe 3 1,q1 9 4,q1 10 5])
 (.seq (jr [q0 7,q0 9,jn (.call false w9i [(.r 0),(.r 1)]),q0 8,q0 10,jn (.call false w9i [(.r 3),(.r 4)]),q1 4 2,q1 5 5,ql 6])
 .ret))))),
 [.v 4,.v 5,.v 6]⟩
def wd4:IFun:=⟨[0,1,4,6,7,8,9,10,15],
 (.seq (jr [q4 2])
 (.seq (.seq (jr [q48_ 4 0,qs 5 4,q7 6 0])
 (.block 0 (.loop [false,true,false,false,true,true,true,false,false] (.seq (jr [qa 7 6 5])
 (.seq (.cond (.v 7) .skip (.exit 0))
 (.seq (.block 1 (.seq (jr [qo 1 4 6,q2 1 0,q1 3 1])
 (.seq (jr [q0 3,q0 1,js 8 (.bin false .eql (.r 0) (.r 1))])
 (.cond (.v 8) (.seq (jr [ql 2])
 .ret) .skip))))
 (jr [qd 6 1,q1 6 0])))))))
 (.seq (jr [q4 2])
 .ret))),
 [.v 2]⟩
def wcb:IFun:=⟨[0,1,2,3,4,5,7,44,47,48,49,50,78],
 (.seq (jr [js 1 (.box wgg 4 (.v 0)),q4 2])
 (.seq (jr [q8 0 1,q44_ 2 0,q8 2 1,q2 1 2,q8 3 1,q2 1 4,jn (.call false w8f [(.r 1),(.r 3),(.r 5)]),qc 6,qe 7 0,qe 7 1,qe 7 2,q1 3 8,q1 4 9,q1 5 10])
 (.seq (.seq (jr [q0 5,q79_ 0,qc 1,q39_ 2 2 1,qq 2 1 3,q39_ 2 3 1,qq 2 1 5,jf 2 (.bin false .eql (.r 4) (.r 6)),qv 2 7,qc 8,q36_ 9 3,q68_ 9 10,q39_ 9 0 1,jf 9 (.faddr 0 (.r 12)),qq 9 1 13,jf 9 (.bin false .neq (.r 11) (.r 14)),qv 9 15,qc 16,q36_ 17 4,q68_ 17 18,q39_ 17 0 1,jf 17 (.faddr 1 (.r 20)),qq 17 1 21,q68_ 17 22,jf 17 (.bin false .neq (.r 19) (.r 23)),qr 7 17 24])
 (.cond (.v 7) (.seq (jr [q4 2])
 .ret) .skip))
 (.seq (.seq (jr [q8 0 1,qf 1 0,q40_ 8 1 1,qs 9 8,q7 10 0])
 (.block 0 (.loop [false,true,false,false,false,false,false,false,true,true,true,false,false] (.seq (jr [qa 11 10 9])
 (.seq (.cond (.v 11) .skip (.exit 0))
 (.seq (.block 1 (.seq (jr [qo 3 8 10,q44_ 3 0,q47_ 6 1 1 1,qg 3 6 1])
 (.seq (jr [q8 1 6,q2 1 0,q8 2 1,q2 1 2,jn (.call false w94 [(.r 1),(.r 3)]),qc 4,q39_ 5 0 6,qq 5 1 6,q39_ 5 3 1,qq 5 1 8,jf 5 (.call false w94 [(.r 7),(.r 9)]),qv 5 10,qc 11,q39_ 12 2 6,qq 12 1 13,q39_ 12 2 1,qq 12 1 15,jf 12 (.call false w94 [(.r 14),(.r 16)]),qv 12 17,qc 18,q39_ 19 2 6,qq 19 1 20,q39_ 19 3 1,qq 19 1 22,jf 19 (.call false w94 [(.r 21),(.r 23)]),qr 12 19 24])
 (.cond (.v 12) (.seq (jr [q4 2])
 .ret) .skip))))
 (jr [qd 10 1,q1 10 0])))))))
 (.seq (jr [ql 2])
 .ret))))),
 [.v 2]⟩
def wci:IFun:=⟨[0,2,3,4,5,6,9,27],
 (.seq (jr [qw 1 0 3 0 0,qh 2 1,q4 3])
 (.seq (.seq (jr [q0 0,jn (.call false w8n [(.r 0)]),q53_ 6 1])
 (.cond (.v 6) (.seq (jr [jn (.build [(.int .i64 0),(.nil false 3),(.int .i64 0),(.int .i64 0)] []),qg 4 1 0,qh 2 1,q4 3])
 .ret) .skip))
 (.seq (jr [jn (.build [(.int .i64 0),(.nil false 3)] [(0,1,(jc 2))]),jn (.build [(.int .i64 0),(.nil false 3),(.nil true 1)] [(0,2,(.r 0))]),jn (.box wgm 3 (.r 1)),q1 4 2])
 (.seq (jr [q0 4,q0 0,q0 0,qu 2,q6 3 1,jn (.callm w8k [(.r 0),(.r 1),(.r 4),(jc 0),(jc 1)])])
 (.seq (jr [q0 4,qp 0,qf 0 1,q44_ 2 2,jn (.build [(.int .i64 0),(.nil false 3),(.int .i64 0),(.int .i64 0)] [(0,2,(.r 3)),(2,1,(jc 0)),(3,1,(jc 1))]),qw 5 0 3 0 0,qg 4 5 4])
 (.seq (.seq (jr [qj 4 5,jn (.call false w8b [(.r 0)]),q53_ 7 1])
 (.cond (.v 7) (.seq (jr [jn (.build [(.int .i64 0),(.nil false 3),(.int .i64 0),(.int .i64 0)] []),qg 4 1 0,qh 2 1,q4 3])
 .ret) .skip))
 (.seq (.region true [(5,4)] [qj 4 5,q0 4,qp 1,qf 2 2,q2 1 3,qg 4 1 0,q1 2 4,ql 3])
 .ret))))))),
 [.cell true 4 1,.v 2,.v 3]⟩
def wda:IFun:=⟨[0,1,4,5,6,18,32],
 (.seq (jr [qh 2 1])
 (.seq (jr [q7 3 0])
 (.seq (.block 0 (.loop [true,true,false,true,false,false,false] (.seq (.seq (jr [q0 3,q0 0,qu 1,jn (.bin false .lss (.r 0) (.r 2)),qc 3,q9 4 0,q9 4 3,qt 4 1 5 6,qk 4 1 7,q9 4 1,jt 4 (.bin false .lss (.r 8) (.r 9)),qn 5 4 10])
 (.cond (.v 5) .skip (.exit 0)))
 (.block 1 (jr [q0 3,q5 0 1,q1 3 1])))))
 (.seq (.seq (jr [q0 3,q0 0,qu 1,jn (.bin false .lss (.r 0) (.r 2)),qc 3,q9 4 0,q9 4 3,qt 4 1 5 6,qk 4 1 7,q9 4 1,q73_ 4 8 9,qn 6 4 10])
 (.cond (.v 6) (.seq (jr [q0 0,q1 2 0])
 .ret) .skip))
 (.seq (jr [jn (.bslice false t_int true 1 []),q0 0,q0 3,jn (.slice 1 (.r 1) none (some (.r 2))),q37_ 1 0 3,q1 4 4])
 (.seq (jr [q0 4,q0 1,qm 1 1,q37_ 1 0 2,q1 4 3])
 (.seq (jr [q0 4,q0 0,q0 3,jn (.slice 1 (.r 1) (some (.r 2)) none),q37_ 1 0 3,q1 2 4])
 .ret))))))),
 [.v 2]⟩
def wcv:IFun:=⟨[0,1,2,3,4,10,27,47,91,115,131],
 (.seq (.seq (jr [q0 4,q56_ 0 0,qc 1,q36_ 2 1,jf 2 (.ncheck (.r 3)),jf 2 (.faddr 0 (.r 4)),qq 2 1 5,q83_ 2 6 9,qv 2 7,qc 8,q36_ 9 1,jf 9 (.ncheck (.r 10)),jf 9 (.faddr 1 (.r 11)),qq 9 1 12,q68_ 9 13,q83_ 9 14 12,qr 6 9 15])
 (.cond (.v 6) (.seq (jr [q0 1,q0 1,qp 1,qf 1 2,q2 1 3,q0 2,qm 1 5,q0 3,qm 1 7,jn (.build [(.nil true 1),(.nil true 1),(.nil true 1)] [(0,1,(.r 6)),(1,1,(.r 8))]),jn (.bslice false wgj false 3 [(.r 9)]),q81_ 3 4 10,qp 0,qf 1 12,qb 1 13 11])
 .ret) .skip))
 (.seq (jr [q0 1,qp 0,qf 0 1,q2 1 2,q1 5 3])
 (.seq (jr [q0 0,js 7 (.callm w91 [(.r 0),(jc 5)])])
 (.block 0 (.seq (.seq (jr [q38_ 7 0,q1 8 0])
 (.cond (.v 8) .skip (jr [q38_ 7 1,q1 8 0])))
 (.cond (.v 8) (.seq (jr [q0 1,qp 0,qf 0 1,q2 1 2,q5 3 1,qp 0,qf 0 5,qb 1 6 4])
 (.seq (jr [q0 0,q0 1,q0 2,q0 5,q0 4,q6 4 1,q43_ 0 1 2 3 5])
 (jr [q0 0,q0 1,q0 5,q0 3,q0 4,q6 4 1,q43_ 0 1 2 3 5]))) (.seq (jr [q38_ 7 2,q1 9 0])
 (.cond (.v 9) (.seq (jr [q0 0,q0 1,q0 2,q0 3,q0 4,q6 4 1,q43_ 0 1 2 3 5])
 (jr [q0 0,q0 1,q0 2,q0 3,q0 4,q6 4 1,q43_ 0 1 2 3 5])) (.seq (jr [q38_ 7 3,q1 10 0])
 (.cond (.v 10) (.seq (jr [q0 1,qp 0,qf 0 1,q2 1 2,q5 3 4,qp 0,qf 0 5,qb 1 6 4])
 (.seq (.region true [(18,4),(20,4)] [q0 1,q0 1,qp 1,qf 1 2,q2 1 3,q0 2,jn (.bslice true t_int true 1 [(.r 5)]),q0 5,q0 5,q5 8 1,jn (.bslice true t_int true 1 [(.r 7),(.r 9)]),jn (.build [(.nil true 1),(.nil true 1),(.nil true 1)] [(0,1,(.r 6)),(1,1,(.r 10))]),q0 5,q5 12 2,q0 5,q5 14 3,jn (.bslice true t_int true 1 [(.r 13),(.r 15)]),q0 3,jn (.callm w9a [(.c (.nil true 1)),(.r 17)]),jn (.build [(.nil true 1),(.nil true 1),(.nil true 1)] [(0,1,(.r 16)),(1,1,(.r 18))]),jn (.bslice false wgj false 3 [(.r 11),(.r 19)]),q81_ 3 4 20,qp 0,qf 1 22,qb 1 23 21])
 (.seq (jr [q0 0,q0 1,q0 5,q0 5,q5 3 2,q0 4,q6 5 1,q43_ 0 1 2 4 6])
 (jr [q0 0,q0 1,q0 5,q5 2 1,q0 5,q5 4 3,q0 4,q6 6 1,q43_ 0 1 3 5 7])))) (.seq (jr [q0 1,qp 0,qf 0 1,q2 1 2,q5 3 2,qp 0,qf 0 5,qb 1 6 4])
 (.seq (jr [q0 1,q0 1,qp 1,qf 1 2,q2 1 3,q0 2,qm 1 5,q0 5,qm 1 7,jn (.build [(.nil true 1),(.nil true 1),(.nil true 1)] [(0,1,(.r 6)),(1,1,(.r 8))]),q0 5,q5 10 1,qm 1 11,q0 3,qm 1 13,jn (.build [(.nil true 1),(.nil true 1),(.nil true 1)] [(0,1,(.r 12)),(1,1,(.r 14))]),jn (.bslice false wgj false 3 [(.r 9),(.r 15)]),q81_ 3 4 16,qp 0,qf 1 18,qb 1 19 17])
 (.seq (jr [q0 0,q0 1,q0 5,q0 5,q5 3 1,q0 4,q6 5 1,q43_ 0 1 2 4 6])
 (jr [q0 0,q0 1,q0 5,q5 2 1,q0 5,q0 4,q6 5 1,q43_ 0 1 3 4 6])))))))))))))),
 []⟩
def wd2:IFun:=⟨[0,1,2,3,8,9,10,20],
 (.seq (jr [qh 4 1])
 (.seq (jr [qh 5 1])
 (.seq (.seq (jr [q0 2,q0 0,q0 3,q0 2,q45_ 2 3,q5 4 1,q50_ 1 5,qz 0 6,q1 6 7])
 (.block 0 (.loop [true,true,false,false,false,true,true,false] (.seq (.seq (jr [q0 6,q63_ 7 0 0])
 (.cond (.v 7) .skip (.exit 0)))
 (.seq (.block 1 (jr [q0 5,q0 0,q0 1,q50_ 1 2,jn (.callm w9a [(.r 0),(.r 3)]),q1 5 4]))
 (jr [q0 6,q6 0 1,q1 6 1]))))))
 (.seq (jr [q0 5,q1 4 0])
 .ret)))),
 [.v 4]⟩
def wcu:IFun:=⟨[0,1,4,5,6,7,23,24,46,67,88,90,103],
 (.seq (jr [qw 2 0 3 0 0])
 (.seq (jr [jn (.build [(.int .i64 0),(.nil false 3)] [(0,1,(jc 2))]),q66_ 3 0 3,qg 2 3 0])
 (.seq (jr [q0 0,q0 0,q60_ 1 3,jn (.bin false .add (jc 1) (.r 2)),jn (.callm w8v [(.r 0),(.v 3),(jc 0),(jc 1),(.r 3)])])
 (.seq (jr [qj 2 3,jn (.build [(.int .i64 0),(.nil false 3),(.int .i64 0),(.int .i64 0)] [(0,2,(.r 0)),(2,1,(jc 0)),(3,1,(jc 1))]),qw 4 0 3 0 0,qg 4 4 1])
 (.seq (jr [q0 0,q8 0 4,qf 1 1,q2 1 2,qu 3,q50_ 0 4,q1 5 5])
 (.seq (.seq (jr [q0 0,js 6 (.callm w91 [(.r 0),(jc 9)])])
 (.block 0 (.seq (jr [q38_ 6 0,q1 7 0])
 (.cond (.v 7) (.region true [(11,2),(11,10),(13,2),(16,2)] [q8 0 4,qf 1 0,q2 1 1,q0 0,q8 0 4,qf 0 4,q2 1 5,q0 0,q8 0 4,qf 0 8,q2 1 9,q50_ 3 6,jn (.bslice true t_int true 1 [(.r 11)]),q50_ 7 10,jn (.bslice true t_int true 1 [(.r 13)]),jn (.build [(.nil true 1),(.nil true 1),(.nil true 1)] [(0,1,(.r 12)),(1,1,(.r 14))]),jn (.bslice false wgj false 3 [(.r 15)]),q81_ 3 2 16,q8 0 4,qf 1 18,qb 1 19 17]) (.seq (jr [q38_ 6 1,q1 8 0])
 (.cond (.v 8) (.region true [(15,2),(15,6),(15,10),(16,2)] [q8 0 4,qf 1 0,q2 1 1,q0 5,q8 0 4,qf 1 4,q2 1 5,q0 5,q3 3 6 7,qf 1 8,q2 1 9,q0 0,q8 0 4,qf 0 12,q2 1 13,q50_ 11 14,jn (.callm w9a [(.r 10),(.r 15)]),q3 3 2 3,qf 1 17,qb 1 18 16]) (.seq (jr [q38_ 6 2,q1 9 0])
 (.cond (.v 9) (.region true [(15,2),(15,6),(15,10),(16,2)] [q8 0 4,qf 1 0,q2 1 1,q0 5,q8 0 4,qf 1 4,q2 1 5,q0 5,q3 3 6 7,qf 0 8,q2 1 9,q0 0,q8 0 4,qf 0 12,q2 1 13,q50_ 11 14,jn (.callm w9a [(.r 10),(.r 15)]),q3 3 2 3,qf 0 17,qb 1 18 16]) (.seq (jr [q38_ 6 3,q1 10 0])
 (.cond (.v 10) (.seq (jr [q48_ 11 1])
 (.cond (.v 11) (.region true [(8,2)] [q8 0 4,qf 1 0,q2 1 1,q0 5,q0 0,q8 0 4,qf 0 5,q2 1 6,jn (.callm w92 [(.r 4),(.r 7),(jc 1),(jc 2)]),q3 3 2 3,qf 2 9,qb 1 10 8]) .skip)) .skip))))))))))
 (.seq (.seq (jr [q0 0,js 12 (.callm w90 [(.r 0),(jc 30)])])
 (.cond (.v 12) (jr [q0 0,jn (.bslice false t_int true 1 [(jc 0),(jc (-1)),(jc 2),(jc 17)]),jn (.callm w8r [(.r 0),(.r 1)]),q8 3 4,qb 1 3 2]) .skip))
 (.seq (jr [qj 4 4,qg 4 2 0])
 .ret)))))))),
 [.cell true 4 2]⟩
def wcw:IFun:=⟨[0,2,3,4,5,6,7,8,9,10,24,33,34,35],
 (.seq (jr [qw 1 0 3 0 0,qh 2 1,js 3 (.nilrow wgf true 2)])
 (.seq (jr [q0 0,jn (.callm w93 [(.r 0)]),q1 4 1])
 (.seq (.seq (jr [q0 4,jn (.call false w8i [(.r 0)]),qc 1,qe 2 0,qe 2 1,qe 2 2,qw 5 0 3 0 0,qg 4 5 3,q1 6 4,q1 7 5])
 (.seq (jr [q0 7,qc 0,q9 1 0,jt 1 (.callm w90 [(.r 2),(jc 4)]),q84_ 1 3,qn 10 1 4])
 (.cond (.v 10) (.seq (jr [qj 4 5,q0 6,q0 4,qg 4 1 0,q1 2 1,q1 3 2])
 .ret) .skip)))
 (.seq (jr [q0 0,jn (.callm w8u [(.r 0),(.c (.bool true))]),qw 8 0 3 0 0,qg 4 8 1])
 (.seq (jr [qh 9 1])
 (.seq (.seq (jr [q8 0 8,qf 1 0,q2 1 1,q62_ 11 2,q7 12 0])
 (.block 0 (.loop [true,true,false,false,true,false,false,false,true,true,false,true,true,false] (.seq (jr [qa 13 12 11])
 (.seq (.cond (.v 13) .skip (.exit 0))
 (.seq (.block 1 (jr [q0 9,q0 0,q60_ 1 4,qm 1 2,q37_ 1 0 3,q1 9 4]))
 (jr [qd 12 1,q1 12 0])))))))
 (.seq (jr [qj 4 8,q0 9,q0 4,qg 4 1 0,q1 2 1,q1 3 2])
 .ret))))))),
 [.cell true 4 1,.v 2,.v 3]⟩
def wdk:IFun:=⟨[0,1,4,5],
 (.seq (jr [qh 2 1])
 (.seq (jr [q0 0,jn (.mk t_int true 1 (.int .i64 0) (.r 0)),q1 3 1])
 (.seq (jr [q0 3,q0 1,q3 1 0 1,jn (.store 1 (.r 2) (jc 1))])
 (.seq (jr [q0 3,q1 2 0])
 .ret)))),
 [.v 2]⟩
def wch:IFun:=⟨[0,1,2,3,6],
 (.seq (jr [js 1 (.box wgg 4 (.v 0)),qh 2 1,q4 3])
 (.seq (.seq (jr [qj 4 1,jn (.call false w8b [(.r 0)]),q53_ 4 1])
 (.cond (.v 4) (.seq (jr [qh 2 1,q4 3])
 .ret) .skip))
 (.seq (jr [q8 0 1,qf 0 0,q2 1 1,q8 2 1,q2 1 3,jn (.call false w9k [(.r 2),(.r 4)]),q1 2 5,ql 3])
 .ret))),
 [.v 2,.v 3]⟩
def wct:IFun:=⟨[0,2],
 (.seq (jr [q7 1 0])
 (.seq (jr [q0 0,jn (.bslice false t_int true 1 [(jc 1),(jc 5),(jc 20),(jc 100),(jc 100),(jc 400),(jc 401),(jc 0)]),jn (.callm w8r [(.r 0),(.r 1)]),q1 1 2])
 .ret)),
 [.v 1]⟩
def wd8:IFun:=⟨[0,2],
 (.seq (jr [qh 1 1])
 (.seq (jr [jn (.bslice false t_int true 1 []),q0 0,q37_ 1 0 1,q1 1 2])
 .ret)),
 [.v 1]⟩
def wcp:IFun:=⟨[0,1,2,6,8,9,10,11,12,19],
 (.seq (jr [q4 3])
 (.seq (.seq (jr [q48_ 5 0,qs 6 5,q7 7 0])
 (.block 0 (.loop [false,true,true,false,false,true,true,true,false,false] (.seq (jr [qa 8 7 6])
 (.seq (.cond (.v 8) .skip (.exit 0))
 (.seq (.block 1 (.seq (jr [qo 1 5 7,q2 1 0,q1 4 1])
 (.seq (jr [q0 4,q0 1,q0 2,jn (.call false w95 [(.r 0),(.r 1),(.r 2)]),q53_ 9 3])
 (.cond (.v 9) (.seq (jr [q4 3])
 .ret) .skip))))
 (jr [qd 7 1,q1 7 0])))))))
 (.seq (jr [ql 3])
 .ret))),
 [.v 3]⟩
def wcd:IFun:=⟨[0,1,4],
 (.seq (jr [q4 2])
 (.seq (jr [q0 0,jn (.call false w99 [(.r 0)]),qc 1,q9 2 1,q57_ 2 3,q9 2 0,q73_ 2 4 5,qi 2 6,qc 7,q9 8 1,jt 8 (.call false w8p [(.r 9),(jc 0),(jc 50)]),qi 8 10,q1 2 11])
 .ret)),
 [.v 2]⟩
def wdg:IFun:=⟨[0,1,2,4],
 (.seq (jr [qy 2 2 0,q4 3])
 (.seq (jr [qj 2 2,jn (.call false w8e [(.r 0)]),qc 1,q54_ 2 0 2,qk 2 1 3,q9 2 1,jt 2 (.call false w8d [(.r 4),(.r 5)]),qi 2 6,q1 3 7])
 .ret)),
 [.v 3]⟩
def wdd:IFun:=⟨[0,1,2,4,6,8,9,10,11,18],
 (.seq (jr [js 2 (.box wgj 3 (.v 0)),q4 3])
 (.seq (.seq (jr [q8 0 2,q40_ 5 1 0,qs 6 5,q7 7 0])
 (.block 0 (.loop [false,true,false,false,false,true,true,true,false,false] (.seq (jr [qa 8 7 6])
 (.seq (.cond (.v 8) .skip (.exit 0))
 (.seq (.block 1 (.seq (jr [qo 1 5 7,q2 1 0,q1 4 1])
 (.seq (jr [q0 1,q0 4,q3 1 0 1,q2 1 2,q82_ 9 3 0])
 (.cond (.v 9) (.seq (jr [q4 3])
 .ret) .skip))))
 (jr [qd 7 1,q1 7 0])))))))
 (.seq (jr [ql 3])
 .ret))),
 [.v 3]⟩
def wde:IFun:=⟨[0,1,2,4,5,6,7,9,10,11,12,18],
 (.seq (jr [qy 2 2 0,qh 3 1])
 (.seq (jr [qh 4 1])
 (.seq (.seq (jr [q8 1 2,q40_ 7 1 0,qs 8 7,q7 9 0])
 (.block 0 (.loop [false,true,false,false,true,false,false,true,true,true,false,false] (.seq (jr [qa 10 9 8])
 (.seq (.cond (.v 10) .skip (.exit 0))
 (.seq (.block 1 (.seq (jr [q0 9,qo 3 7 9,q44_ 3 1,q47_ 6 1 1 1,q1 5 0,qg 3 6 2])
 (.seq (jr [qj 3 6,q0 1,js 11 (.call false w9d [(.r 0),(.r 1)])])
 (.cond (.v 11) (jr [q0 4,q0 5,qm 1 1,q37_ 1 0 2,q1 4 3]) .skip))))
 (jr [qd 9 1,q1 9 0])))))))
 (.seq (jr [q0 4,q1 3 0])
 .ret)))),
 [.v 3]⟩
def wc8:IFun:=⟨[0,1,2,4,5,9],
 (.seq (jr [qy 2 2 0,qh 3 1,q4 4])
 (.seq (.seq (jr [qj 2 2,q0 1,jn (.call false w9g [(.r 0),(.r 1)]),q53_ 5 2])
 (.cond (.v 5) (.seq (jr [qh 3 1,q4 4])
 .ret) .skip))
 (.seq (jr [qj 2 2,q0 1,jn (.call false w9e [(.r 0),(.r 1)]),q1 3 2,ql 4])
 .ret))),
 [.v 3,.v 4]⟩
def wdf:IFun:=⟨[0,1,2,4,5,7,9,11,15,16,17,18,29,30,31,32,40,41,42,43],
 (.seq (jr [js 2 (.box wgj 3 (.v 0)),qh 3 1])
 (.seq (jr [q0 1,jn (.call false w98 [(.r 0)]),q1 4 1])
 (.seq (.seq (jr [q8 0 2,q40_ 8 1 0,qs 9 8,q7 10 0])
 (.block 0 (.loop [false,false,true,false,true,false,false,false,true,true,true,false,false,false,false,false,false,false,false,false] (.seq (jr [qa 11 10 9])
 (.seq (.cond (.v 11) .skip (.exit 0))
 (.seq (.block 1 (.seq (jr [qo 1 8 10,q2 1 0,q1 5 1])
 (jr [q0 4,q0 5,q3 1 0 1,q2 1 2,q6 3 1,q3 1 0 1,qb 1 5 4])))
 (jr [qd 10 1,q1 10 0])))))))
 (.seq (.seq (jr [q8 2 2,q40_ 12 1 0,qs 13 12,q7 14 0])
 (.block 2 (.loop [false,false,true,false,true,false,false,false,false,false,false,false,true,true,true,false,false,false,false,false] (.seq (jr [qa 15 14 13])
 (.seq (.cond (.v 15) .skip (.exit 2))
 (.seq (.block 3 (.seq (jr [qo 1 12 14,q2 1 0,q1 6 1])
 (jr [q0 4,q0 6,q3 1 0 1,jn (.store 1 (.r 2) (jc 0))])))
 (jr [qd 14 1,q1 14 0])))))))
 (.seq (.seq (jr [q8 1 2,q40_ 16 1 0,qs 17 16,q7 18 0])
 (.block 4 (.loop [false,false,false,false,true,false,false,false,false,false,false,false,false,false,false,false,true,true,true,false] (.seq (jr [qa 19 18 17])
 (.seq (.cond (.v 19) .skip (.exit 4))
 (.seq (.block 5 (.seq (jr [qo 1 16 18,q2 1 0,q1 7 1])
 (jr [q0 4,q0 7,q3 1 0 1,q2 1 2,q5 3 1,q3 1 0 1,qb 1 5 4])))
 (jr [qd 18 1,q1 18 0])))))))
 (.seq (jr [q0 4,q1 3 0])
 .ret)))))),
 [.v 3]⟩
def wca:IFun:=⟨[0,1,2,3,6,7,8,31,43],
 (.seq (jr [qy 3 2 0,qh 4 1,q4 5])
 (.seq (.seq (jr [qj 2 3,q0 1,jn (.call false w9g [(.r 0),(.r 1)]),q79_ 2,qc 3,q36_ 4 2,q39_ 4 1 3,qq 4 1 6,q68_ 4 7,q64_ 4 8 1,jf 4 (.call false w95 [(.r 5),(jc 0),(.r 9)]),q58_ 4 10,qv 4 11,qc 12,q39_ 13 1 3,qq 13 1 14,q36_ 13 2,q88_ 13 3 15 16,jf 13 (.load true 3 (.r 17)),q36_ 13 1,jf 13 (.call false w9d [(.r 18),(.r 19)]),q58_ 13 20,qr 7 13 21])
 (.cond (.v 7) (.seq (jr [qh 4 1,q4 5])
 .ret) .skip))
 (.seq (jr [q8 1 3,q2 1 0,q0 2,q3 3 1 2,q44_ 3 3,q0 1,jn (.call false w9f [(.r 4),(.r 5)]),q1 6 6])
 (.seq (.seq (jr [q8 0 3,q2 1 0,q0 6,jn (.call false w8d [(.r 1),(.r 2)]),q53_ 8 3])
 (.cond (.v 8) (.seq (jr [qh 4 1,q4 5])
 .ret) .skip))
 (.seq (jr [q0 6,q1 4 0,ql 5])
 .ret))))),
 [.v 4,.v 5]⟩
def wd7:IFun:=⟨[0,1,4,7],
 (.seq (jr [q7 2 0])
 (.seq (.seq (jr [q0 0,q0 1,q74_ 3 0 1])
 (.cond (.v 3) (.seq (jr [q0 0,q1 2 0])
 .ret) .skip))
 (.seq (jr [q0 1,q1 2 0])
 .ret))),
 [.v 2]⟩
def wcx:IFun:=⟨[0,1,3,4,5,6,10,26],
 (.seq (jr [qy 2 2 1,qh 3 1])
 (.seq (jr [qh 4 1])
 (.seq (.seq (jr [q7 5 0])
 (.block 0 (.loop [true,false,true,false,true,true,false,false] (.seq (.seq (jr [q0 5,q8 0 2,q2 1 1,q41_ 6 0 2])
 (.cond (.v 6) .skip (.exit 0)))
 (.seq (.block 1 (jr [q0 4,q0 0,q60_ 1 4,q6 2 1,jn (.call false w97 [(jc 0),(.r 3)]),qm 1 4,q37_ 1 0 5,q1 4 6]))
 (jr [q0 5,q5 0 1,q1 5 1]))))))
 (.seq (.seq (jr [q0 0,jn (.callm w90 [(.r 0),(jc 30)]),qc 1,q9 2 4,q57_ 2 3,jt 2 (.bin false .gtr (.r 4) (jc 0)),qn 7 2 5])
 (.cond (.v 7) (jr [q0 4,q0 0,jn (.bslice false t_int true 1 [(jc 50),(jc 51),(jc (-1))]),jn (.callm w8r [(.r 1),(.r 2)]),jn (.iaddr 1 (.r 0) (jc 0)),qb 1 4 3]) .skip))
 (.seq (jr [q0 4,q1 3 0])
 .ret))))),
 [.v 3]⟩
def wcy:IFun:=⟨[0,1,2,4,6,7,8,9,10,11,12,18,32,46,49],
 (.seq (jr [qy 3 2 1,qh 4 1])
 (.seq (jr [q0 2,jn (.call false w98 [(.r 0)]),q1 5 1])
 (.seq (.seq (jr [q0 0,q60_ 0 6,q1 6 1])
 (.block 0 (.loop [true,false,false,true,false,true,true,false,false,false,false,false,false,false,false] (.seq (.seq (jr [q0 6,q63_ 11 0 0])
 (.cond (.v 11) .skip (.exit 0)))
 (.seq (.block 1 (.seq (jr [qj 2 3,q0 5,jn (.call false w88 [(.r 0),(.r 1)]),qc 2,qe 3 0,qe 3 1,q1 7 4,q1 8 5])
 (.seq (jr [q0 8,qc 0,q9 1 7,q57_ 1 2,jt 1 (.bin false .gtr (.r 3) (jc 0)),qn 12 1 4])
 (.cond (.v 12) (.seq (.region true [(6,0)] [qj 2 3,q0 5,q0 7,q0 0,q0 7,qu 4,q50_ 3 5,q3 1 2 6,q2 1 7,jn (.call false w8a [(.r 0),(.r 1),(.r 8)]),qc 9,qe 10 0,qe 10 1,q1 9 11,q1 10 12])
 (.seq (jr [q48_ 13 10])
 (.cond (.v 13) (jr [q0 9,q1 5 0]) .skip))) .skip))))
 (jr [q0 6,q6 0 1,q1 6 1]))))))
 (.seq (.seq (jr [q0 0,js 14 (.callm w90 [(.r 0),(jc 4)])])
 (.cond (.v 14) (.seq (jr [q0 0,qj 2 3,jn (.callm w8x [(.r 0),(.r 1)]),q1 4 2])
 .ret) .skip))
 (.seq (jr [q0 5,q1 4 0])
 .ret))))),
 [.v 4]⟩
def wc6:IFun:=⟨[0,2,3,4,5,6,7,8,10,12],
 (.seq (jr [q66_ 1 0 3,qh 2 1,qh 3 1,q7 4 0])
 (.seq (jr [q0 0,jn (.build [(.nil true 1),(.int .i64 0),(.int .u64 0)] [(0,1,(.r 0))]),jn (.box wgn 3 (.r 1)),q1 5 2])
 (.seq (jr [q0 5,jn (.callm w8w [(.r 0)]),qc 1,qe 2 0,qe 2 1,qe 2 2,qw 6 0 3 0 0,qg 4 6 3,q1 7 4,qc 5])
 (.seq (jr [qj 4 6,jn (.call false w8h [(.r 0)]),qc 1,qe 2 0,qe 2 1,q1 8 3,qc 4])
 (.seq (jr [q0 5,jn (.callm w8t [(.r 0)]),q1 9 1])
 (.seq (.region true [(8,1)] [q8 0 6,q44_ 2 0,q0 7,q0 5,q8 0 6,q44_ 2 4,q0 8,q0 9,jn (.callm w8y [(.r 3),(.r 5),(.r 6)]),qg 2 1 1,q1 2 2,q1 3 8,q1 4 7])
 .ret)))))),
 [.cell true 2 1,.v 2,.v 3,.v 4]⟩
def wb8:IFun:=⟨[0,1,2,6],
 (.seq (jr [q4 3])
 (.seq (jr [q0 0,q0 1,jn (.bin false .geq (.r 0) (.r 1)),qc 2,q9 3 0,q9 3 2,jt 3 (.bin false .leq (.r 4) (.r 5)),qi 3 6,q1 3 7])
 .ret)),
 [.v 3]⟩
def wb2:IFun:=⟨[0,2,3,7,19],
 (.seq (jr [q4 1])
 (.seq (.seq (jr [q7 2 1])
 (.block 0 (.loop [true,false,true,false,false] (.seq (.seq (jr [q0 2,q0 0,qu 1,q41_ 3 0 2])
 (.cond (.v 3) .skip (.exit 0)))
 (.seq (.block 1 (.seq (.region true [] [q0 0,q0 2,q6 1 1,q3 1 0 2,q2 1 3,q0 0,q0 2,q3 1 5 6,q2 1 7,q85_ 4 4 8])
 (.cond (.v 4) (.seq (jr [q4 1])
 .ret) .skip)))
 (jr [q0 2,q5 0 1,q1 2 1]))))))
 (.seq (jr [ql 1])
 .ret))),
 [.v 1]⟩
def wau:IFun:=⟨[0,1,2,6,8,9,10,11,12,19],
 (.seq (jr [q4 3])
 (.seq (.seq (jr [q48_ 5 0,qs 6 5,q7 7 0])
 (.block 0 (.loop [false,true,true,false,false,true,true,true,false,false] (.seq (jr [qa 8 7 6])
 (.seq (.cond (.v 8) .skip (.exit 0))
 (.seq (.block 1 (.seq (jr [qo 1 5 7,q2 1 0,q1 4 1])
 (.seq (jr [q0 4,q0 1,q0 2,jn (.call false w77 [(.r 0),(.r 1),(.r 2)]),q53_ 9 3])
 (.cond (.v 9) (.seq (jr [q4 3])
 .ret) .skip))))
 (jr [qd 7 1,q1 7 0])))))))
 (.seq (jr [ql 3])
 .ret))),
 [.v 3]⟩
def wav:IFun:=⟨[0,1,2,4],
 (.seq (jr [qy 2 2 0,q4 3])
 (.seq (jr [q0 1,jn (.call false w71 [(.r 0)]),qc 1,q9 2 1,q54_ 2 0 2,qk 2 1 4,q72_ 2 5 1,jt 2 (.call false w6u [(.r 3),(jc 0),(.r 6)]),qi 2 7,q1 3 8])
 .ret)),
 [.v 3]⟩
def wao:IFun:=⟨[0,1,2,3],
 (.seq (jr [js 2 (.box wgj 3 (.v 0)),q4 3])
 (.seq (jr [q8 0 2,q2 1 0,qu 1,q56_ 2 0,qc 3,q70_ 4 2 1,q39_ 4 0 2,qq 4 1 6,jf 4 (.call false w6v [(.r 5),(.r 7)]),q58_ 4 8,qv 4 9,qc 10,q70_ 11 2 1,q39_ 11 1 2,qq 11 1 13,jf 11 (.call false w6v [(.r 12),(.r 14)]),q58_ 11 15,qv 11 16,qc 17,q70_ 18 2 1,q39_ 18 2 2,qq 18 1 20,jf 18 (.call false w6v [(.r 19),(.r 21)]),q58_ 18 22,qv 18 23,q1 3 24])
 .ret)),
 [.v 3]⟩
def wbm:IFun:=⟨[0,1,4,5,7,8,9,16],
 (.seq (jr [q7 2 0])
 (.seq (.seq (jr [q0 0,q62_ 4 0,q7 5 0])
 (.block 0 (.loop [true,true,false,false,true,true,false,false] (.seq (jr [qa 6 5 4])
 (.seq (.cond (.v 6) .skip (.exit 0))
 (.seq (.block 1 (.seq (jr [q0 5,q1 3 0])
 (.seq (jr [q0 1,q0 0,q0 3,q3 3 1 2,q44_ 3 3,js 7 (.callv false (.r 0) [(.r 4)])])
 (.cond (.v 7) (.seq (jr [q0 3,q1 2 0])
 .ret) .skip))))
 (jr [qd 5 1,q1 5 0])))))))
 (.seq (jr [q87_ 2])
 .ret))),
 [.v 2]⟩
def wbi:IFun:=⟨[0,1,4],
 (.seq (jr [q4 2])
 (.seq (jr [q0 0,q0 1,jn (.call false w7m [(.r 0),(.r 1)]),jn (.bin false .geq (.r 2) (jc 0)),q1 2 3])
 .ret)),
 [.v 2]⟩
def wan:IFun:=⟨[0,1,2],
 (.seq (jr [qy 1 2 0,q4 2])
 (.seq (jr [q8 0 1,q2 1 0,jn (.call false w77 [(.r 1),(jc 1),(jc 16)]),qc 2,q54_ 3 1 1,qk 3 1 4,q57_ 3 5,jt 3 (.bin false .leq (.r 6) (jc 24)),qi 3 7,qc 8,q54_ 9 1 1,qk 9 1 10,jt 9 (.mkfn w6p [(.v 1)]),jt 9 (.call false w7i [(.r 11),(.r 12)]),q84_ 9 13,qi 9 14,q1 2 15])
 .ret)),
 [.v 2]⟩
def wam:IFun:=⟨[0,1,4],
 (.seq (jr [q4 2])
 (.seq (jr [q0 0,jn (.call false w77 [(.r 0),(jc 1),(jc 16)]),qc 1,q9 2 1,q57_ 2 3,q9 2 0,q73_ 2 4 5,qi 2 6,qc 7,q9 8 1,jt 8 (.call false w6u [(.r 9),(jc 0),(jc 50)]),qi 8 10,q1 2 11])
 .ret)),
 [.v 2]⟩
def wb5:IFun:=⟨[0,1,2,4],
 (.seq (jr [qy 2 2 0,q4 3])
 (.seq (jr [qj 2 2,jn (.call false w6o [(.r 0)]),qc 1,q54_ 2 0 2,qk 2 1 3,q9 2 1,jt 2 (.call false w6n [(.r 4),(.r 5)]),qi 2 6,q1 3 7])
 .ret)),
 [.v 3]⟩
def wb4:IFun:=⟨[0,1,3],
 (.seq (jr [q4 2])
 (.seq (jr [jn (.load false 1 (.v 1)),q0 0,q3 1 0 1,q2 1 2,q56_ 3 0,q1 2 4])
 .ret)),
 [.v 2]⟩
def wbn:IFun:=⟨[0,1,4,5,7,8,9,16],
 (.seq (jr [q7 2 0])
 (.seq (.seq (jr [q0 0,q62_ 4 0,q7 5 0])
 (.block 0 (.loop [true,true,false,false,true,true,false,false] (.seq (jr [qa 6 5 4])
 (.seq (.cond (.v 6) .skip (.exit 0))
 (.seq (.block 1 (.seq (jr [q0 5,q1 3 0])
 (.seq (jr [q0 1,q0 0,q0 3,q3 1 1 2,q2 1 3,js 7 (.callv false (.r 0) [(.r 4)])])
 (.cond (.v 7) (.seq (jr [q0 3,q1 2 0])
 .ret) .skip))))
 (jr [qd 5 1,q1 5 0])))))))
 (.seq (jr [q87_ 2])
 .ret))),
 [.v 2]⟩
def wbj:IFun:=⟨[0,1,4],
 (.seq (jr [q4 2])
 (.seq (jr [q0 0,q0 1,jn (.call false w7n [(.r 0),(.r 1)]),jn (.bin false .geq (.r 2) (jc 0)),q1 2 3])
 .ret)),
 [.v 2]⟩
def wb3:IFun:=⟨[0,1,2,3,4],
 (.seq (jr [js 2 (.box wgj 3 (.v 0)),js 3 (.box wgk 1 (.v 1)),q4 4])
 (.seq (jr [q8 0 2,q2 1 0,jn (.mkfn w73 [(.v 3)]),jn (.call false w7j [(.r 1),(.r 2)]),q79_ 3,q1 4 4])
 .ret)),
 [.v 4]⟩
def waz:IFun:=⟨[0,1,2,4,5,6,7,9,10,11,12,18],
 (.seq (jr [qy 2 2 0,qh 3 1])
 (.seq (jr [qh 4 1])
 (.seq (.seq (jr [q8 1 2,q40_ 7 1 0,qs 8 7,q7 9 0])
 (.block 0 (.loop [false,true,false,false,true,false,false,true,true,true,false,false] (.seq (jr [qa 10 9 8])
 (.seq (.cond (.v 10) .skip (.exit 0))
 (.seq (.block 1 (.seq (jr [q0 9,qo 3 7 9,q44_ 3 1,q47_ 6 1 1 1,q1 5 0,qg 3 6 2])
 (.seq (jr [qj 3 6,q0 1,js 11 (.call false w72 [(.r 0),(.r 1)])])
 (.cond (.v 11) (jr [q0 4,q0 5,qm 1 1,q37_ 1 0 2,q1 4 3]) .skip))))
 (jr [qd 9 1,q1 9 0])))))))
 (.seq (jr [q0 4,q1 3 0])
 .ret)))),
 [.v 3]⟩
def wb1:IFun:=⟨[0,1,2,4,5,7,9,11,15,16,17,18,29,30,31,32,40,41,42,43],
 (.seq (jr [js 2 (.box wgj 3 (.v 0)),qh 3 1])
 (.seq (jr [q0 1,jn (.call false w7g [(.r 0)]),q1 4 1])
 (.seq (.seq (jr [q8 0 2,q40_ 8 1 0,qs 9 8,q7 10 0])
 (.block 0 (.loop [false,false,true,false,true,false,false,false,true,true,true,false,false,false,false,false,false,false,false,false] (.seq (jr [qa 11 10 9])
 (.seq (.cond (.v 11) .skip (.exit 0))
 (.seq (.block 1 (.seq (jr [qo 1 8 10,q2 1 0,q1 5 1])
 (jr [q0 4,q0 5,q3 1 0 1,q2 1 2,q6 3 1,q3 1 0 1,qb 1 5 4])))
 (jr [qd 10 1,q1 10 0])))))))
 (.seq (.seq (jr [q8 2 2,q40_ 12 1 0,qs 13 12,q7 14 0])
 (.block 2 (.loop [false,false,true,false,true,false,false,false,false,false,false,false,true,true,true,false,false,false,false,false] (.seq (jr [qa 15 14 13])
 (.seq (.cond (.v 15) .skip (.exit 2))
 (.seq (.block 3 (.seq (jr [qo 1 12 14,q2 1 0,q1 6 1])
 (jr [q0 4,q0 6,q3 1 0 1,jn (.store 1 (.r 2) (jc 0))])))
 (jr [qd 14 1,q1 14 0])))))))
 (.seq (.seq (jr [q8 1 2,q40_ 16 1 0,qs 17 16,q7 18 0])
 (.block 4 (.loop [false,false,false,false,true,false,false,false,false,false,false,false,false,false,false,false,true,true,true,false] (.seq (jr [qa 19 18 17])
 (.seq (.cond (.v 19) .skip (.exit 4))
 (.seq (.block 5 (.seq (jr [qo 1 16 18,q2 1 0,q1 7 1])
 (jr [q0 4,q0 7,q3 1 0 1,q2 1 2,q5 3 1,q3 1 0 1,qb 1 5 4])))
 (jr [qd 18 1,q1 18 0])))))))
 (.seq (jr [q0 4,q1 3 0])
 .ret)))))),
 [.v 3]⟩
def wbl:IFun:=⟨[0,1,4,5,10,12,13,14,24],
 (.seq (jr [q4 2])
 (.seq (.seq (jr [q0 0,qu 0,q0 1,qu 2,q65_ 4 1 3])
 (.cond (.v 4) (.seq (jr [q4 2])
 .ret) .skip))
 (.seq (.seq (jr [q0 0,q62_ 5 0,q7 6 0])
 (.block 0 (.loop [true,true,false,false,false,true,true,false,false] (.seq (jr [qa 7 6 5])
 (.seq (.cond (.v 7) .skip (.exit 0))
 (.seq (.block 1 (.seq (jr [q0 6,q1 3 0])
 (.seq (.region true [] [q0 0,q0 3,q3 1 0 1,q2 1 2,q0 1,q0 3,q3 1 4 5,q2 1 6,q65_ 8 3 7])
 (.cond (.v 8) (.seq (jr [q4 2])
 .ret) .skip))))
 (jr [qd 6 1,q1 6 0])))))))
 (.seq (jr [ql 2])
 .ret)))),
 [.v 2]⟩
def war:IFun:=⟨[0,1,3],
 (.seq (jr [q4 2])
 (.seq (jr [q0 0,jn (.load false 1 (.v 1)),jn (.call false w7l [(.r 0),(.r 1)]),q1 2 2])
 .ret)),
 [.v 2]⟩
def wbo:IFun:=⟨[0,1,4,5,7,8,9,16],
 (.seq (jr [q7 2 0])
 (.seq (.seq (jr [q0 0,q62_ 4 0,q7 5 0])
 (.block 0 (.loop [true,true,false,false,true,true,false,false] (.seq (jr [qa 6 5 4])
 (.seq (.cond (.v 6) .skip (.exit 0))
 (.seq (.block 1 (.seq (jr [q0 5,q1 3 0])
 (.seq (jr [q0 1,q0 0,q0 3,q3 1 1 2,q2 1 3,js 7 (.callv false (.r 0) [(.r 4)])])
 (.cond (.v 7) (.seq (jr [q0 3,q1 2 0])
 .ret) .skip))))
 (jr [qd 5 1,q1 5 0])))))))
 (.seq (jr [q87_ 2])
 .ret))),
 [.v 2]⟩
def waq:IFun:=⟨[0,1,2,3,4],
 (.seq (jr [js 2 (.box wgi 2 (.v 0)),js 3 (.box wgk 1 (.v 1)),q7 4 0])
 (.seq (jr [q8 0 2,q2 1 0,jn (.mkfn w6s [(.v 3)]),jn (.call false w7o [(.r 1),(.r 2)]),q1 4 3])
 .ret)),
 [.v 4]⟩
def wb0:IFun:=⟨[0,1,2,3,6,7,8,9,11,12,13,22,31,32,33,34,50,56,61],
 (.seq (jr [qy 3 2 0,qx 4 1 3,q7 5 0])
 (.seq (jr [q0 1,jn (.call false w7g [(.r 0)]),q52_ 1 1,jn (.build [(.nil false 1),(.nil true 3)] [(0,1,(.r 2))]),qx 6 1 3,qg 2 6 3])
 (.seq (.seq (jr [q7 7 0])
 (.block 0 (.loop [false,false,true,true,true,false,true,true,false,false,false,false,false,false,false,false,false,false,false] (.seq (.seq (jr [q0 7,q8 0 6,q2 1 1,qu 2,q41_ 11 0 3])
 (.cond (.v 11) .skip (.exit 0)))
 (.seq (.block 1 (.seq (.region true [] [qj 2 3,q8 0 6,q2 1 1,q0 7,q3 1 2 3,q2 1 4,q7 14 0,js 12 (.call false w6y [(.r 0),(.r 5)]),qs 13 12])
 (.block 2 (.loop [false,false,true,true,true,false,true,true,false,false,false,false,true,true,true,false,false,false,false] (.seq (jr [qa 15 14 13])
 (.seq (.cond (.v 15) .skip (.exit 2))
 (.seq (.block 3 (.seq (jr [qo 1 12 14,q2 1 0,q1 8 1])
 (.seq (.region true [] [q8 1 3,q2 1 0,q0 8,q3 3 1 2,q44_ 3 3,q8 0 6,q2 1 5,q0 7,q3 1 6 7,q2 1 8,jn (.call false w70 [(.r 4),(.r 9)]),q1 9 10])
 (.seq (.seq (jr [q0 9,jn (.call false w6u [(.r 0),(jc 0),(jc 50)]),q53_ 16 1])
 (.cond (.v 16) (.seq (jr [q61_ 1 3,qg 2 4 0,q7 5 3])
 .ret) .skip))
 (.seq (jr [qj 2 6,q0 9,jn (.call false w6r [(.r 0),(.r 1)]),q1 10 2])
 (.seq (.seq (jr [q0 10,q86_ 17 0 0])
 (.cond (.v 17) (.seq (.seq (jr [q8 0 6,q2 1 0,qu 1,q0 2,q85_ 18 2 3])
 (.cond (.v 18) (.seq (jr [q61_ 1 3,qg 2 4 0,q7 5 2])
 .ret) .skip))
 (.seq (jr [q8 0 6,q2 1 0,qu 1,q1 10 2])
 (jr [q8 0 6,q2 1 0,q0 9,q52_ 1 2,q69_ 1 1 3,q8 0 6,qb 1 5 4]))) .skip))
 (jr [q8 1 6,q2 1 0,q0 7,q0 8,q0 10,jn (.build [(.int .i64 0),(.int .i64 0),(.int .i64 0)] [(0,1,(.r 2)),(1,1,(.r 3)),(2,1,(.r 4))]),jn (.bslice false wge true 3 [(.r 5)]),jn (.append wge true 3 (.r 1) (.r 6)),q8 1 6,qb 1 8 7])))))))
 (jr [qd 14 1,q1 14 0]))))))))
 (jr [q0 7,q5 0 1,q1 7 1]))))))
 (.seq (jr [qj 2 6,qg 2 4 0,q7 5 1])
 .ret)))),
 [.cell true 2 4,.v 5]⟩
def waj:IFun:=⟨[0,1,2,3,6,7,8,9,10,19],
 (.seq (jr [qy 3 2 0,qx 4 1 3,q7 5 0,q4 6])
 (.seq (.seq (jr [qj 2 3,q0 1,jn (.call false w74 [(.r 0),(.r 1)]),q79_ 2,qc 3,q36_ 4 2,jf 4 (.call false w77 [(.r 5),(jc 1),(jc 400)]),q58_ 4 6,qr 9 4 7])
 (.cond (.v 9) (.seq (jr [q61_ 1 3,qg 2 4 0,q7 5 0,q4 6])
 .ret) .skip))
 (.seq (jr [qj 2 3,q0 1,q0 2,jn (.call false w6z [(.r 0),(.r 1),(.r 2)]),qc 3,qe 4 0,qe 4 1,qx 7 1 3,qg 2 7 5,q1 8 6])
 (.seq (jr [qj 2 7,q0 8,qg 2 4 0,q1 5 1,ql 6])
 .ret)))),
 [.cell true 2 4,.v 5,.v 6]⟩
def wb7:IFun:=⟨[0,1,2,3,6,7,8,9,10],
 (.seq (jr [qy 3 2 0,qx 4 1 3,q4 5])
 (.seq (jr [qj 2 3,q0 1,q0 2,jn (.call false w6k [(.r 0),(.r 1),(.r 2)]),qc 3,qe 4 0,qe 4 1,qe 4 2,qx 6 1 3,qg 2 6 5,q1 7 6,q1 8 7])
 (.seq (jr [qj 2 6,q0 8,qc 1,q9 2 7,q71_ 2 3 1,qi 2 4,qg 2 4 0,q1 5 5])
 .ret))),
 [.cell true 2 4,.v 5]⟩
def wal:IFun:=⟨[0,1,2,4],
 (.seq (jr [qy 2 2 0,q4 3])
 (.seq (jr [qj 2 2,jn (.call false w6o [(.r 0)]),qc 1,q9 2 1,q57_ 2 3,q54_ 2 1 2,qk 2 1 5,q57_ 2 6,q73_ 2 4 7,qi 2 8,qc 9,q9 10 1,jt 10 (.call false w6u [(.r 11),(jc 0),(jc 9)]),qi 10 12,q1 3 13])
 .ret)),
 [.v 3]⟩
def wbp:IFun:=⟨[0,1,4,5,7,8,9,16],
 (.seq (jr [q7 2 0])
 (.seq (.seq (jr [q0 0,q62_ 4 0,q7 5 0])
 (.block 0 (.loop [true,true,false,false,true,true,false,false] (.seq (jr [qa 6 5 4])
 (.seq (.cond (.v 6) .skip (.exit 0))
 (.seq (.block 1 (.seq (jr [q0 5,q1 3 0])
 (.seq (jr [q0 1,q0 0,q0 3,q3 1 1 2,q2 1 3,js 7 (.bin false .eql (.r 0) (.r 4))])
 (.cond (.v 7) (.seq (jr [q0 3,q1 2 0])
 .ret) .skip))))
 (jr [qd 5 1,q1 5 0])))))))
 (.seq (jr [q87_ 2])
 .ret))),
 [.v 2]⟩
def wbk:IFun:=⟨[0,1,4],
 (.seq (jr [q4 2])
 (.seq (jr [q0 0,q0 1,jn (.call false w7p [(.r 0),(.r 1)]),jn (.bin false .geq (.r 2) (jc 0)),q1 2 3])
 .ret)),
 [.v 2]⟩
def wbf:IFun:=⟨[0,2,4,8],
 (.seq (jr [q7 1 0])
 (.seq (.seq (jr [q0 0,js 2 (.bin false .geq (.r 0) (.c (.int .u32 65536)))])
 (.cond (.v 2) (.seq (jr [q0 0,q51_ 0 16,q1 0 1])
 (jr [q7 1 16])) .skip))
 (.seq (.seq (jr [q0 0,js 3 (.bin false .geq (.r 0) (.c (.int .u32 256)))])
 (.cond (.v 3) (.seq (jr [q0 0,q51_ 0 8,q1 0 1])
 (jr [q0 1,q5 0 8,q1 1 1])) .skip))
 (.seq (jr [q0 1,q0 0,jn (.conv .u8 (.r 1)),⟨none,.stri (.c (.str ⟨#[0,1,2,2,3,3,3,3,4,4,4,4,4,4,4,4,5,5,5,5,5,5,5,5,5,5,5,5,5,5,5,5,6,6,6,6,6,6,6,6,6,6,6,6,6,6,6,6,6,6,6,6,6,6,6,6,6,6,6,6,6,6,6,6,7,7,7,7,7,7,7,7,7,7,7,7,7,7,7,7,7,7,7,7,7,7,7,7,7,7,7,7,7,7,7,7,7,7,7,7,7,7,7,7,7,7,7,7,7,7,7,7,7,7,7,7,7,7,7,7,7,7,7,7,7,7,7,7,8,8,8,8,8,8,8,8,8,8,8,8,8,8,8,8,8,8,8,8,8,8,8,8,8,8,8,8,8,8,8,8,8,8,8,8,8,8,8,8,8,8,8,8,8,8,8,8,8,8,8,8,8,8,8,8,8,8,8,8,8,8,8,8,8,8,8,8,8,8,8,8,8,8,8,8,8,8,8,8,8,8,8,8,8,8,8,8,8,8,8,8,8,8,8,8,8,8,8,8,8,8,8,8,8,8,8,8,8,8,8,8,8,8,8,8,8,8,8,8,8,8,8,8,8,8,8,8]⟩)) (.r 2),none⟩,jn (.conv .i64 (.r 3)),qz 0 4,q1 1 5])
 .ret)))),
 [.v 1]⟩
def wbg:IFun:=⟨[0,2,4,8,14],
 (.seq (jr [q7 1 0])
 (.seq (.seq (jr [q0 0,js 2 (.bin false .geq (.r 0) (.c (.int .u64 4294967296)))])
 (.cond (.v 2) (.seq (jr [q0 0,q51_ 0 32,q1 0 1])
 (jr [q7 1 32])) .skip))
 (.seq (.seq (jr [q0 0,js 3 (.bin false .geq (.r 0) (.c (.int .u64 65536)))])
 (.cond (.v 3) (.seq (jr [q0 0,q51_ 0 16,q1 0 1])
 (jr [q0 1,q5 0 16,q1 1 1])) .skip))
 (.seq (.seq (jr [q0 0,js 4 (.bin false .geq (.r 0) (.c (.int .u64 256)))])
 (.cond (.v 4) (.seq (jr [q0 0,q51_ 0 8,q1 0 1])
 (jr [q0 1,q5 0 8,q1 1 1])) .skip))
 (.seq (jr [q0 1,q0 0,jn (.conv .u8 (.r 1)),⟨none,.stri (.c (.str ⟨#[0,1,2,2,3,3,3,3,4,4,4,4,4,4,4,4,5,5,5,5,5,5,5,5,5,5,5,5,5,5,5,5,6,6,6,6,6,6,6,6,6,6,6,6,6,6,6,6,6,6,6,6,6,6,6,6,6,6,6,6,6,6,6,6,7,7,7,7,7,7,7,7,7,7,7,7,7,7,7,7,7,7,7,7,7,7,7,7,7,7,7,7,7,7,7,7,7,7,7,7,7,7,7,7,7,7,7,7,7,7,7,7,7,7,7,7,7,7,7,7,7,7,7,7,7,7,7,7,8,8,8,8,8,8,8,8,8,8,8,8,8,8,8,8,8,8,8,8,8,8,8,8,8,8,8,8,8,8,8,8,8,8,8,8,8,8,8,8,8,8,8,8,8,8,8,8,8,8,8,8,8,8,8,8,8,8,8,8,8,8,8,8,8,8,8,8,8,8,8,8,8,8,8,8,8,8,8,8,8,8,8,8,8,8,8,8,8,8,8,8,8,8,8,8,8,8,8,8,8,8,8,8,8,8,8,8,8,8,8,8,8,8,8,8,8,8,8,8,8,8,8,8,8,8,8,8]⟩)) (.r 2),none⟩,jn (.conv .i64 (.r 3)),qz 0 4,q1 1 5])
 .ret))))),
 [.v 1]⟩
def wbe:IFun:=⟨[0,2],
 (.seq (jr [q7 1 0])
 (.seq (.cond (.c (.bool false)) (.seq (jr [q0 0,jn (.conv .u32 (.r 0)),jn (.call false w7e [(.r 1)]),q1 1 2])
 .ret) .skip)
 (.seq (jr [q0 0,jn (.call false w7f [(.r 0)]),q1 1 1])
 .ret))),
 [.v 1]⟩
def wbu:IFun:=⟨[0,1,2,3,8,9,14,34],
 (.seq (jr [q0 1,q5 0 1,q1 4 1])
 (.block 0 (.loop [true,true,true,true,true,false,false,false] (.seq (.seq (jr [q0 4,q0 2,q41_ 6 0 1])
 (.cond (.v 6) .skip (.exit 0)))
 (.seq (.block 1 (.seq (jr [q0 4,q1 5 0])
 (.block 2 (.loop [true,true,true,true,true,true,false,false] (.seq (.seq (.region true [] [q0 5,q0 1,jn (.bin false .gtr (.r 0) (.r 1)),qc 2,q9 3 3,q9 3 0,q9 3 5,qt 3 1 5 6,qk 3 1 7,q9 3 0,q9 3 5,q72_ 3 10 1,qt 3 1 9 11,qk 3 1 12,q46_ 3 4 8 13,q49_ 3 14 0,qn 7 3 15])
 (.cond (.v 7) .skip (.exit 2)))
 (.seq (.block 3 (.region true [] [q0 0,q0 5,q0 0,q0 5,q6 3 1,q0 0,q0 5,q6 6 1,q3 1 5 7,q2 1 8,q0 0,q0 5,q3 1 10 11,q2 1 12,q3 1 0 1,qb 1 14 9,q3 1 2 4,qb 1 16 13]))
 (jr [q0 5,q6 0 1,q1 5 1])))))))
 (jr [q0 4,q5 0 1,q1 4 1])))))),
 []⟩
def wc4:IFun:=⟨[0,1,2,3,4,10,11,18,40,58],
 (.seq (jr [q0 1,q1 5 0])
 (.block 0 (.loop [true,false,true,true,true,true,false,false,false,false] (.block 1 (.seq (jr [q0 5,jn (.bin false .mul (jc 2) (.r 0)),q5 1 1,q1 6 2])
 (.seq (.seq (jr [q0 6,q0 2,q85_ 7 0 1])
 (.cond (.v 7) (.exit 0) .skip))
 (.seq (.seq (.region true [] [q0 6,q5 0 1,q0 2,jn (.bin false .lss (.r 1) (.r 2)),qc 3,q9 4 4,q9 4 0,q9 4 3,q9 4 6,jt 4 (.bin false .add (.r 7) (.r 8)),qt 4 1 6 9,qk 4 1 10,q9 4 0,q9 4 3,q9 4 6,jt 4 (.bin false .add (.r 13) (.r 14)),jt 4 (.bin false .add (.r 15) (jc 1)),qt 4 1 12 16,qk 4 1 17,q46_ 4 5 11 18,q49_ 4 19 0,qn 8 4 20])
 (.cond (.v 8) (jr [q0 6,q5 0 1,q1 6 1]) .skip))
 (.seq (.seq (.region true [] [q0 4,q0 0,q0 3,q0 5,qz 2 3,q3 1 1 4,q2 1 5,q0 0,q0 3,q0 6,qz 8 9,q3 1 7 10,q2 1 11,jn (.callv false (.r 0) [(.r 6),(.r 12)]),jn (.bin false .lss (.r 13) (jc 0)),q53_ 9 14])
 (.cond (.v 9) .ret .skip))
 (.seq (.region true [] [q0 0,q0 3,q0 5,qz 1 2,q0 0,q0 3,q0 6,qz 5 6,q0 0,q0 3,q0 6,qz 9 10,q3 1 8 11,q2 1 12,q0 0,q0 3,q0 5,qz 15 16,q3 1 14 17,q2 1 18,q3 1 0 3,qb 1 20 13,q3 1 4 7,qb 1 22 19])
 (jr [q0 6,q1 5 0])))))))))),
 []⟩
def wbt:IFun:=⟨[0,1,2,3,8,9,10,11,12,21,33],
 (.seq (jr [q0 1,q1 4 0])
 (.seq (jr [q7 5 0])
 (.seq (jr [q0 2,q0 1,q45_ 0 1,q1 6 2])
 (.seq (.seq (jr [q0 6,q6 0 1,q67_ 1 2,q1 7 2])
 (.block 0 (.loop [true,false,false,true,true,true,true,true,false,false,false] (.seq (.seq (jr [q0 7,q59_ 9 0 0])
 (.cond (.v 9) .skip (.exit 0)))
 (.seq (.block 1 (jr [q0 0,q0 7,q0 6,q0 4,q0 3,jn (.callm w84 [(.r 0),(.r 1),(.r 2),(.r 3),(.r 4)])]))
 (jr [q0 7,q6 0 1,q1 7 1]))))))
 (.seq (jr [q0 6,q6 0 1,q1 8 1])
 (.block 2 (.loop [true,false,false,true,true,true,false,false,true,false,false] (.seq (.seq (jr [q0 8,q59_ 10 0 0])
 (.cond (.v 10) .skip (.exit 2)))
 (.seq (.block 3 (.seq (.region true [] [q0 0,q0 4,q0 0,q0 4,q0 8,qz 3 4,q0 0,q0 4,q0 8,qz 7 8,q3 1 6 9,q2 1 10,q0 0,q0 4,q3 1 12 13,q2 1 14,q3 1 0 1,qb 1 16 11,q3 1 2 5,qb 1 18 15])
 (jr [q0 0,q0 5,q0 8,q0 4,q0 3,jn (.callm w84 [(.r 0),(.r 1),(.r 2),(.r 3),(.r 4)])])))
 (jr [q0 8,q6 0 1,q1 8 1])))))))))),
 []⟩
def wbx:IFun:=⟨[0,2],
 (.seq (jr [js 1 (.mov (.c (.int .u64 0)))])
 (.seq (jr [q0 0,jn (.conv .u64 (.r 0)),jn (.call false w7d [(.r 1)]),jn (.bin false .shl (.c (.int .u64 1)) (.r 2)),q1 1 3])
 .ret)),
 [.v 1]⟩
def wc5:IFun:=⟨[0,2],
 (.seq (jr [js 1 (.mov (.c (.int .u64 0)))])
 (.seq (.region true [] [q0 0,qp 0,q2 1 1,q0 0,qp 3,q2 1 4,jn (.bin false .shl (.r 5) (.c (.int .u64 13))),jn (.bin false .xor (.r 2) (.r 6)),qp 0,qb 1 8 7])
 (.seq (.region true [] [q0 0,qp 0,q2 1 1,q0 0,qp 3,q2 1 4,q51_ 5 7,jn (.bin false .xor (.r 2) (.r 6)),qp 0,qb 1 8 7])
 (.seq (.region true [] [q0 0,qp 0,q2 1 1,q0 0,qp 3,q2 1 4,jn (.bin false .shl (.r 5) (.c (.int .u64 17))),jn (.bin false .xor (.r 2) (.r 6)),qp 0,qb 1 8 7])
 (.seq (jr [q0 0,qp 0,q2 1 1,q1 1 2])
 .ret))))),
 [.v 1]⟩
def wbr:IFun:=⟨[0,1,2,8,9,10,11,12,17,35,45],
 (.seq (jr [q0 2,q0 1,q45_ 0 1,q1 3 2])
 (.seq (jr [q0 3,q59_ 8 0 8])
 (.cond (.v 8) (.seq (jr [q0 3,jn (.conv .u64 (.r 0)),js 4 (.alloc wgl [(.int .u64 0)]),qg 1 4 1])
 (.seq (jr [q0 3,jn (.call false w7x [(.r 0)]),q1 5 1])
 (.seq (jr [q0 1,q0 3,q67_ 1 4,q75_ 2 2,qz 0 3,q6 4 1,q1 6 5])
 (.block 0 (.loop [true,true,false,true,true,true,true,false,false,false,false] (.seq (.seq (jr [q0 6,q0 1,q0 3,q67_ 2 4,q75_ 3 2,qz 1 4,q5 5 1,js 9 (.bin false .leq (.r 0) (.r 6))])
 (.cond (.v 9) .skip (.exit 0)))
 (.seq (.block 1 (.seq (jr [jn (.callm w85 [(.v 4)]),q0 5,jn (.bin false .sub (.r 1) (.c (.int .u64 1))),jn (.bin false .and (.r 0) (.r 2)),jn (.conv .i64 (.r 3)),q1 7 4])
 (.seq (.seq (jr [q0 7,q0 3,q85_ 10 0 1])
 (.cond (.v 10) (jr [q0 7,q0 3,q45_ 0 1,q1 7 2]) .skip))
 (.region true [] [q0 0,q0 6,q0 0,q0 1,q0 7,qz 3 4,q0 0,q0 1,q0 7,qz 7 8,q3 1 6 9,q2 1 10,q0 0,q0 6,q3 1 12 13,q2 1 14,q3 1 0 1,qb 1 16 11,q3 1 2 5,qb 1 18 15]))))
 (jr [q0 6,q5 0 1,q1 6 1])))))))) .skip))),
 []⟩
def wby:IFun:=⟨[0,1,2,3,4,10,11,22],
 (.seq (jr [q7 5 0,q7 6 0])
 (.seq (.seq (.region true [] [q0 4,q0 0,q0 2,q3 1 1 2,q2 1 3,q0 0,q0 1,q3 1 5 6,q2 1 7,jn (.callv false (.r 0) [(.r 4),(.r 8)]),q86_ 7 9 0])
 (.cond (.v 7) (.seq (jr [q0 3,qp 0,q2 1 1,q5 2 1,qp 0,qb 1 4 3])
 (.seq (jr [q0 2,q0 1,q1 5 0,q1 6 1])
 .ret)) .skip))
 (.seq (jr [q0 1,q0 2,q1 5 0,q1 6 1])
 .ret))),
 [.v 5,.v 6]⟩
def wbw:IFun:=⟨[0,1,2,3,4,5,12],
 (.seq (jr [q7 6 0])
 (.seq (jr [q0 0,q0 1,q0 2,q0 4,q0 5,jn (.callm w7y [(.r 0),(.r 1),(.r 2),(.r 3),(.r 4)]),qc 5,qe 6 0,qe 6 1,q1 1 7,q1 2 8])
 (.seq (jr [q0 0,q0 2,q0 3,q0 4,q0 5,jn (.callm w7y [(.r 0),(.r 1),(.r 2),(.r 3),(.r 4)]),qc 5,qe 6 0,qe 6 1,q1 2 7,q1 3 8])
 (.seq (jr [q0 0,q0 1,q0 2,q0 4,q0 5,jn (.callm w7y [(.r 0),(.r 1),(.r 2),(.r 3),(.r 4)]),qc 5,qe 6 0,qe 6 1,q1 1 7,q1 2 8])
 (.seq (jr [q0 2,q1 6 0])
 .ret))))),
 [.v 6]⟩
def wbv:IFun:=⟨[0,1,2,3,8],
 (.seq (jr [q7 4 0])
 (.seq (jr [q0 0,q0 1,q6 1 1,q0 1,q0 1,q5 4 1,q0 2,q0 3,jn (.callm w7w [(.r 0),(.r 2),(.r 3),(.r 5),(.r 6),(.r 7)]),q1 4 8])
 .ret)),
 [.v 4]⟩
def wbs:IFun:=⟨[0,1,2,3,8,9,10,11,12,13,14,34,36,55,57,60],
 (.seq (jr [q7 4 0,q7 5 0])
 (.seq (jr [q0 2,q0 1,q45_ 0 1,q1 6 2])
 (.seq (jr [js 7 (.alloc t_int [(.int .i64 0)])])
 (.seq (jr [q0 1,q0 6,q67_ 1 4,q75_ 2 1,qz 0 3,q1 8 4])
 (.seq (jr [q0 1,q0 6,q67_ 1 4,q75_ 2 2,qz 0 3,q1 9 4])
 (.seq (jr [q0 1,q0 6,q67_ 1 4,q75_ 2 3,qz 0 3,q1 10 4])
 (.seq (.seq (jr [q0 6,q59_ 11 0 8])
 (.cond (.v 11) (.seq (.seq (jr [q0 6,q59_ 12 0 50])
 (.cond (.v 12) (.seq (jr [q0 0,q0 8,q0 3,jn (.callm w7v [(.r 0),(.r 1),(.v 7),(.r 2)]),q1 8 3])
 (.seq (jr [q0 0,q0 9,q0 3,jn (.callm w7v [(.r 0),(.r 1),(.v 7),(.r 2)]),q1 9 3])
 (jr [q0 0,q0 10,q0 3,jn (.callm w7v [(.r 0),(.r 1),(.v 7),(.r 2)]),q1 10 3]))) .skip))
 (jr [q0 0,q0 8,q0 9,q0 10,q0 3,jn (.callm w7w [(.r 0),(.r 1),(.r 2),(.r 3),(.v 7),(.r 4)]),q1 9 5])) .skip))
 (.seq (jr [js 13 (.load false 1 (.v 7))])
 (.block 0 (.seq (jr [q38_ 13 0,q1 14 0])
 (.cond (.v 14) (.seq (jr [q0 9,q1 4 0,q7 5 1])
 .ret) (.seq (jr [q38_ 13 12,q1 15 0])
 (.cond (.v 15) (.seq (jr [q0 9,q1 4 0,q7 5 2])
 .ret) (.seq (jr [q0 9,q1 4 0,q7 5 0])
 .ret)))))))))))))),
 [.v 4,.v 5]⟩
def wc3:IFun:=⟨[0,1,2,8,9,15],
 (.seq (jr [q0 1,q1 3 0])
 (.seq (jr [q0 2,q6 0 1,q1 4 1])
 (.block 0 (.loop [true,false,false,true,true,false] (.seq (.seq (jr [q0 3,q0 4,q41_ 5 0 1])
 (.cond (.v 5) .skip (.exit 0)))
 (.block 1 (.seq (.region true [] [q0 0,q0 3,q0 0,q0 4,q0 0,q0 4,q3 1 4 5,q2 1 6,q0 0,q0 3,q3 1 8 9,q2 1 10,q3 1 0 1,qb 1 12 7,q3 1 2 3,qb 1 14 11])
 (.seq (jr [q0 3,q5 0 1,q1 3 1])
 (jr [q0 4,q6 0 1,q1 4 1]))))))))),
 []⟩
def wbz:IFun:=⟨[0,1,2,3,8,9,10,11,12,16,36,41,45,65,69,84,104,109,124],
 (.seq (jr [q4 4])
 (.seq (jr [q0 1,q5 0 1,q1 5 1])
 (.seq (.seq (jr [q7 6 0])
 (.block 0 (.loop [true,true,true,true,false,true,true,false,false,false,false,false,false,false,false,false,false,false,false] (.seq (.seq (jr [q0 6,q86_ 9 0 5])
 (.cond (.v 9) .skip (.exit 0)))
 (.seq (.block 1 (.seq (.block 2 (.loop [true,true,true,true,false,true,true,false,false,false,false,false,false,false,false,false,false,false,false] (.seq (.seq (.region true [] [q0 5,q0 2,jn (.bin false .lss (.r 0) (.r 1)),qc 2,q9 3 3,q9 3 0,q9 3 5,qt 3 1 5 6,qk 3 1 7,q9 3 0,q9 3 5,q72_ 3 10 1,qt 3 1 9 11,qk 3 1 12,q46_ 3 4 8 13,q49_ 3 14 0,q84_ 3 15,qn 10 3 16])
 (.cond (.v 10) .skip (.exit 2)))
 (.block 3 (jr [q0 5,q5 0 1,q1 5 1])))))
 (.seq (.seq (jr [q0 5,q0 2,js 11 (.bin false .eql (.r 0) (.r 1))])
 (.cond (.v 11) (.seq (jr [ql 4])
 .ret) .skip))
 (.seq (.seq (jr [q0 2,q0 1,q45_ 0 1,q86_ 12 2 50])
 (.cond (.v 12) (.seq (jr [q4 4])
 .ret) .skip))
 (.seq (.region true [] [q0 0,q0 5,q0 0,q0 5,q6 3 1,q0 0,q0 5,q6 6 1,q3 1 5 7,q2 1 8,q0 0,q0 5,q3 1 10 11,q2 1 12,q3 1 0 1,qb 1 14 9,q3 1 2 4,qb 1 16 13])
 (.seq (.seq (jr [q0 5,q0 1,q45_ 0 1,q59_ 13 2 2])
 (.cond (.v 13) (.seq (jr [q0 5,q6 0 1,q1 7 1])
 (.block 4 (.loop [true,true,true,true,false,true,true,true,false,false,false,false,false,false,false,false,false,false,false] (.seq (.seq (jr [q0 7,q59_ 14 0 1])
 (.cond (.v 14) .skip (.exit 4)))
 (.seq (.block 5 (.seq (.seq (.region true [] [q0 3,q0 0,q0 7,q3 1 1 2,q2 1 3,q0 0,q0 7,q6 6 1,q3 1 5 7,q2 1 8,jn (.callv false (.r 0) [(.r 4),(.r 9)]),jn (.bin false .lss (.r 10) (jc 0)),q53_ 15 11])
 (.cond (.v 15) (.exit 4) .skip))
 (.region true [] [q0 0,q0 7,q0 0,q0 7,q6 3 1,q0 0,q0 7,q6 6 1,q3 1 5 7,q2 1 8,q0 0,q0 7,q3 1 10 11,q2 1 12,q3 1 0 1,qb 1 14 9,q3 1 2 4,qb 1 16 13])))
 (jr [q0 7,q6 0 1,q1 7 1])))))) .skip))
 (.seq (jr [q0 2,q0 5,q45_ 0 1,q59_ 16 2 2])
 (.cond (.v 16) (.seq (jr [q0 5,q5 0 1,q1 8 1])
 (.block 6 (.loop [true,true,true,true,false,true,true,false,true,false,false,false,false,false,false,false,false,false,false] (.seq (.seq (jr [q0 8,q0 2,q41_ 17 0 1])
 (.cond (.v 17) .skip (.exit 6)))
 (.seq (.block 7 (.seq (.seq (.region true [] [q0 3,q0 0,q0 8,q3 1 1 2,q2 1 3,q0 0,q0 8,q6 6 1,q3 1 5 7,q2 1 8,jn (.callv false (.r 0) [(.r 4),(.r 9)]),jn (.bin false .lss (.r 10) (jc 0)),q53_ 18 11])
 (.cond (.v 18) (.exit 6) .skip))
 (.region true [] [q0 0,q0 8,q0 0,q0 8,q6 3 1,q0 0,q0 8,q6 6 1,q3 1 5 7,q2 1 8,q0 0,q0 8,q3 1 10 11,q2 1 12,q3 1 0 1,qb 1 14 9,q3 1 2 4,qb 1 16 13])))
 (jr [q0 8,q5 0 1,q1 8 1])))))) .skip))))))))
 (jr [q0 6,q5 0 1,q1 6 1]))))))
 (.seq (jr [q4 4])
 .ret)))),
 [.v 4]⟩
def wc1:IFun:=⟨[0,1,2,3,4,10,11,12,47,65,70],
 (.seq (jr [q7 5 0])
 (.seq (.region true [] [q0 0,q0 1,q0 0,q0 3,q0 0,q0 3,q3 1 4 5,q2 1 6,q0 0,q0 1,q3 1 8 9,q2 1 10,q3 1 0 1,qb 1 12 7,q3 1 2 3,qb 1 14 11])
 (.seq (jr [q0 1,q5 0 1,q0 2,q6 2 1,q1 6 1,q1 7 3])
 (.seq (.block 0 (.loop [true,true,false,false,true,false,true,true,false,false,false] (.block 1 (.seq (.block 2 (.loop [true,true,false,false,true,false,true,true,false,false,false] (.seq (.seq (.region true [] [q0 6,q0 7,q76_ 0 1,qc 2,q9 3 4,q9 3 0,q9 3 1,qt 3 1 5 6,qk 3 1 7,q9 3 0,q9 3 6,qt 3 1 9 10,qk 3 1 11,q46_ 3 4 8 12,q49_ 3 13 0,q84_ 3 14,qn 8 3 15])
 (.cond (.v 8) .skip (.exit 2)))
 (.block 3 (jr [q0 6,q5 0 1,q1 6 1])))))
 (.seq (.block 4 (.loop [true,true,false,false,true,false,true,true,false,false,false] (.seq (.seq (.region true [] [q0 6,q0 7,q76_ 0 1,qc 2,q9 3 4,q9 3 0,q9 3 1,qt 3 1 5 6,qk 3 1 7,q9 3 0,q9 3 7,qt 3 1 9 10,qk 3 1 11,q46_ 3 4 8 12,q49_ 3 13 0,qn 9 3 14])
 (.cond (.v 9) .skip (.exit 4)))
 (.block 5 (jr [q0 7,q6 0 1,q1 7 1])))))
 (.seq (.seq (jr [q0 6,q0 7,q74_ 10 0 1])
 (.cond (.v 10) (.exit 0) .skip))
 (.seq (.region true [] [q0 0,q0 6,q0 0,q0 7,q0 0,q0 7,q3 1 4 5,q2 1 6,q0 0,q0 6,q3 1 8 9,q2 1 10,q3 1 0 1,qb 1 12 7,q3 1 2 3,qb 1 14 11])
 (.seq (jr [q0 6,q5 0 1,q1 6 1])
 (jr [q0 7,q6 0 1,q1 7 1])))))))))
 (.seq (jr [q0 6,q1 5 0])
 .ret))))),
 [.v 5]⟩
def wc0:IFun:=⟨[0,1,2,3,4,10,11,12,13,47,66,71,120,139,144],
 (.seq (jr [q7 5 0,q4 6])
 (.seq (.region true [] [q0 0,q0 1,q0 0,q0 3,q0 0,q0 3,q3 1 4 5,q2 1 6,q0 0,q0 1,q3 1 8 9,q2 1 10,q3 1 0 1,qb 1 12 7,q3 1 2 3,qb 1 14 11])
 (.seq (jr [q0 1,q5 0 1,q0 2,q6 2 1,q1 7 1,q1 8 3])
 (.seq (.block 0 (.loop [true,true,false,false,true,false,false,true,true,false,false,false,false,false,false] (.seq (.seq (.region true [] [q0 7,q0 8,q76_ 0 1,qc 2,q9 3 4,q9 3 0,q9 3 7,qt 3 1 5 6,qk 3 1 7,q9 3 0,q9 3 1,qt 3 1 9 10,qk 3 1 11,q46_ 3 4 8 12,q49_ 3 13 0,qn 9 3 14])
 (.cond (.v 9) .skip (.exit 0)))
 (.block 1 (jr [q0 7,q5 0 1,q1 7 1])))))
 (.seq (.block 2 (.loop [true,true,false,false,true,false,false,true,true,false,false,false,false,false,false] (.seq (.seq (.region true [] [q0 7,q0 8,q76_ 0 1,qc 2,q9 3 4,q9 3 0,q9 3 8,qt 3 1 5 6,qk 3 1 7,q9 3 0,q9 3 1,qt 3 1 9 10,qk 3 1 11,q46_ 3 4 8 12,q49_ 3 13 0,q84_ 3 14,qn 10 3 15])
 (.cond (.v 10) .skip (.exit 2)))
 (.block 3 (jr [q0 8,q6 0 1,q1 8 1])))))
 (.seq (.seq (jr [q0 7,q0 8,q74_ 11 0 1])
 (.cond (.v 11) (.seq (.region true [] [q0 0,q0 8,q0 0,q0 1,q0 0,q0 1,q3 1 4 5,q2 1 6,q0 0,q0 8,q3 1 8 9,q2 1 10,q3 1 0 1,qb 1 12 7,q3 1 2 3,qb 1 14 11])
 (.seq (jr [q0 8,q1 5 0,ql 6])
 .ret)) .skip))
 (.seq (.region true [] [q0 0,q0 7,q0 0,q0 8,q0 0,q0 8,q3 1 4 5,q2 1 6,q0 0,q0 7,q3 1 8 9,q2 1 10,q3 1 0 1,qb 1 12 7,q3 1 2 3,qb 1 14 11])
 (.seq (jr [q0 7,q5 0 1,q1 7 1])
 (.seq (jr [q0 8,q6 0 1,q1 8 1])
 (.seq (.block 4 (.loop [true,true,false,false,true,false,false,true,true,false,false,false,false,false,false] (.block 5 (.seq (.block 6 (.loop [true,true,false,false,true,false,false,true,true,false,false,false,false,false,false] (.seq (.seq (.region true [] [q0 7,q0 8,q76_ 0 1,qc 2,q9 3 4,q9 3 0,q9 3 7,qt 3 1 5 6,qk 3 1 7,q9 3 0,q9 3 1,qt 3 1 9 10,qk 3 1 11,q46_ 3 4 8 12,q49_ 3 13 0,qn 12 3 14])
 (.cond (.v 12) .skip (.exit 6)))
 (.block 7 (jr [q0 7,q5 0 1,q1 7 1])))))
 (.seq (.block 8 (.loop [true,true,false,false,true,false,false,true,true,false,false,false,false,false,false] (.seq (.seq (.region true [] [q0 7,q0 8,q76_ 0 1,qc 2,q9 3 4,q9 3 0,q9 3 8,qt 3 1 5 6,qk 3 1 7,q9 3 0,q9 3 1,qt 3 1 9 10,qk 3 1 11,q46_ 3 4 8 12,q49_ 3 13 0,q84_ 3 14,qn 13 3 15])
 (.cond (.v 13) .skip (.exit 8)))
 (.block 9 (jr [q0 8,q6 0 1,q1 8 1])))))
 (.seq (.seq (jr [q0 7,q0 8,q74_ 14 0 1])
 (.cond (.v 14) (.exit 4) .skip))
 (.seq (.region true [] [q0 0,q0 7,q0 0,q0 8,q0 0,q0 8,q3 1 4 5,q2 1 6,q0 0,q0 7,q3 1 8 9,q2 1 10,q3 1 0 1,qb 1 12 7,q3 1 2 3,qb 1 14 11])
 (.seq (jr [q0 7,q5 0 1,q1 7 1])
 (jr [q0 8,q6 0 1,q1 8 1])))))))))
 (.seq (.region true [] [q0 0,q0 8,q0 0,q0 1,q0 0,q0 1,q3 1 4 5,q2 1 6,q0 0,q0 8,q3 1 8 9,q2 1 10,q3 1 0 1,qb 1 12 7,q3 1 2 3,qb 1 14 11])
 (.seq (jr [q0 8,q1 5 0,q4 6])
 .ret)))))))))))),
 [.v 5,.v 6]⟩
def wc2:IFun:=⟨[0,1,2,3,4,10,11,12,13,14,15,16,17,18,19,20,25,32,39,56,75,80,97,125],
 (.seq (jr [ql 5])
 (.seq (jr [ql 6])
 (.block 0 (.loop [true,true,true,true,true,true,true,false,false,false,false,false,false,false,false,false,false,false,false,false,false,false,false,false] (.block 1 (.seq (jr [q0 2,q0 1,q45_ 0 1,q1 7 2])
 (.seq (.seq (jr [q0 7,js 16 (.bin false .leq (.r 0) (jc 12))])
 (.cond (.v 16) (.seq (jr [q0 0,q0 1,q0 2,q0 4,jn (.callm w7u [(.r 0),(.r 1),(.r 2),(.r 3)])])
 .ret) .skip))
 (.seq (.seq (jr [q0 3,q82_ 17 0 0])
 (.cond (.v 17) (.seq (jr [q0 0,q0 1,q0 2,q0 4,jn (.callm w7t [(.r 0),(.r 1),(.r 2),(.r 3)])])
 .ret) .skip))
 (.seq (.seq (jr [q0 5,q53_ 18 0])
 (.cond (.v 18) (.seq (jr [q0 0,q0 1,q0 2,q0 4,jn (.callm w7r [(.r 0),(.r 1),(.r 2),(.r 3)])])
 (jr [q0 3,q6 0 1,q1 3 1])) .skip))
 (.seq (jr [q0 0,q0 1,q0 2,q0 4,jn (.callm w7s [(.r 0),(.r 1),(.r 2),(.r 3)]),qc 4,qe 5 0,qe 5 1,q1 8 6,q1 9 7])
 (.seq (.seq (jr [q0 9,q82_ 19 0 2])
 (.cond (.v 19) (.seq (jr [q0 0,q0 1,q0 2,q0 4,jn (.callm w83 [(.r 0),(.r 1),(.r 2),(.r 3)])])
 (.seq (jr [q0 2,q6 0 1,q0 8,q0 1,q45_ 2 3,q45_ 1 4,q1 8 5])
 (jr [q7 9 1]))) .skip))
 (.seq (.seq (jr [q0 5,qc 0,q9 1 6,qi 1 2,qc 3,q9 4 9,q71_ 4 5 1,qn 20 4 6])
 (.cond (.v 20) (.seq (jr [q0 0,q0 1,q0 2,q0 4,js 21 (.callm w7z [(.r 0),(.r 1),(.r 2),(.r 3)])])
 (.cond (.v 21) .ret .skip)) .skip))
 (.seq (.seq (.region true [] [q0 1,jn (.bin false .gtr (.r 0) (jc 0)),qc 1,q9 2 4,q9 2 0,q9 2 1,q72_ 2 5 1,qt 2 1 4 6,qk 2 1 7,q9 2 0,q9 2 8,qt 2 1 9 10,qk 2 1 11,q46_ 2 3 8 12,q49_ 2 13 0,q84_ 2 14,qn 22 2 15])
 (.cond (.v 22) (.seq (jr [q0 0,q0 1,q0 2,q0 8,q0 4,jn (.callm w81 [(.r 0),(.r 1),(.r 2),(.r 3),(.r 4)]),q1 10 5])
 (.seq (jr [q0 10,q1 1 0])
 (.exit 1))) .skip))
 (.seq (jr [q0 0,q0 1,q0 2,q0 8,q0 4,jn (.callm w80 [(.r 0),(.r 1),(.r 2),(.r 3),(.r 4)]),qc 5,qe 6 0,qe 6 1,q1 11 7,q1 12 8])
 (.seq (jr [q0 12,q1 6 0])
 (.seq (jr [q0 11,q0 1,q45_ 0 1,q0 2,q0 11,q45_ 3 4,q1 13 2,q1 14 5])
 (.seq (jr [q0 7,q67_ 0 8,q1 15 1])
 (.seq (jr [q0 13,q0 14,q41_ 23 0 1])
 (.cond (.v 23) (.seq (jr [q0 13,q0 15,jn (.bin false .geq (.r 0) (.r 1)),q1 5 2])
 (.seq (jr [q0 0,q0 1,q0 11,q0 3,q0 4,jn (.callm w82 [(.r 0),(.r 1),(.r 2),(.r 3),(.r 4)])])
 (jr [q0 11,q5 0 1,q1 1 1]))) (.seq (jr [q0 14,q0 15,jn (.bin false .geq (.r 0) (.r 1)),q1 5 2])
 (.seq (jr [q0 0,q0 11,q5 1 1,q0 2,q0 3,q0 4,jn (.callm w82 [(.r 0),(.r 2),(.r 3),(.r 4),(.r 5)])])
 (jr [q0 11,q1 2 0])))))))))))))))))))))),
 []⟩
def wbq:IFun:=⟨[0,1,4],
 (.seq (jr [q0 0,qu 0,q1 2 1])
 (jr [q0 0,q0 2,q0 2,jn (.conv .u64 (.r 2)),jn (.call false w7d [(.r 3)]),q0 1,jn (.callm w82 [(.r 0),(jc 0),(.r 1),(.r 4),(.r 5)])])),
 []⟩
def wai:IFun:=⟨[0,2],
 (.seq (jr [q4 1])
 (.seq (jr [q0 0,q0 0,jn (.bin false .neq (.r 0) (.r 1)),q1 1 2])
 .ret)),
 [.v 1]⟩
def wah:IFun:=⟨[0,1,4,5,6,11,12,13,16,19],
 (.seq (jr [q7 2 0])
 (.seq (jr [q0 0,jn (.call false w6j [(.r 0)]),q1 3 1])
 (.seq (jr [q0 1,jn (.call false w6j [(.r 0)]),q1 4 1])
 (.seq (.seq (jr [q48_ 5 3])
 (.cond (.v 5) (.seq (.seq (jr [q48_ 6 4])
 (.cond (.v 6) (.seq (jr [q7 2 0])
 .ret) .skip))
 (.seq (jr [q87_ 2])
 .ret)) .skip))
 (.seq (.seq (jr [q48_ 7 4])
 (.cond (.v 7) (.seq (jr [q7 2 1])
 .ret) .skip))
 (.seq (.seq (jr [q0 0,q0 1,q41_ 8 0 1])
 (.cond (.v 8) (.seq (jr [q87_ 2])
 .ret) .skip))
 (.seq (.seq (jr [q0 0,q0 1,q74_ 9 0 1])
 (.cond (.v 9) (.seq (jr [q7 2 1])
 .ret) .skip))
 (.seq (jr [q7 2 0])
 .ret)))))))),
 [.v 2]⟩
def wbh:IFun:=⟨[0,1,4,5,6,7,8,9,10,11,12,19,28,35],
 (.seq (jr [q7 2 0])
 (.seq (.seq (jr [q48_ 7 0,qs 8 7,q7 9 0])
 (.block 0 (.loop [true,true,false,false,false,false,false,true,true,true,false,false,false,false] (.seq (jr [qa 10 9 8])
 (.seq (.cond (.v 10) .skip (.exit 0))
 (.seq (.block 1 (.seq (jr [q0 9,qo 1 7 9,q2 1 1,q1 3 0,q1 4 2])
 (.seq (.seq (jr [q0 3,q0 1,qu 1,q85_ 11 0 2])
 (.cond (.v 11) (.seq (jr [q7 2 1])
 .ret) .skip))
 (.seq (jr [q0 1,q0 3,q3 1 0 1,q2 1 2,q1 5 3])
 (.seq (jr [q0 4,q0 5,jn (.call false w6i [(.r 0),(.r 1)]),q1 6 2])
 (.seq (jr [q0 6,js 12 (.bin false .neq (.r 0) (jc 0))])
 (.cond (.v 12) (.seq (jr [q0 6,q1 2 0])
 .ret) .skip)))))))
 (jr [qd 9 1,q1 9 0])))))))
 (.seq (.seq (jr [q0 0,qu 0,q0 1,qu 2,q41_ 13 1 3])
 (.cond (.v 13) (.seq (jr [q87_ 2])
 .ret) .skip))
 (.seq (jr [q7 2 0])
 .ret)))),
 [.v 2]⟩
def wap:IFun:=⟨[0,1,2,3,4,8,9,10,11,12,13,15,16,18,33,38,42,43,44,45,69,76,77,78,79],
 (.seq (jr [qy 4 2 0,q78_ 5 1,q4 6])
 (.seq (jr [qj 2 4,q0 2,q0 3,jn (.call false w76 [(.r 0),(.r 1),(.r 2)]),qc 3,qe 4 0,qe 4 1,qx 7 1 3,qg 2 7 5,q1 8 6])
 (.seq (.seq (jr [q0 8,q79_ 0,qc 1,q70_ 2 2 4,q36_ 2 1,jf 2 (.call false w6m [(.r 3),(.r 4)]),q58_ 2 5,qr 14 2 6])
 (.cond (.v 14) (.seq (jr [q78_ 5 1,q4 6])
 .ret) .skip))
 (.seq (jr [jn (.bslice false t_int true 1 [(jc 0)]),q1 9 0])
 (.seq (.seq (jr [q7 10 0])
 (.block 0 (.loop [false,true,false,false,false,false,false,true,false,true,true,false,false,false,false,false,false,false,false,false,false,false,false,false,false] (.seq (.seq (jr [q0 10,q0 9,qu 1,q41_ 15 0 2])
 (.cond (.v 15) .skip (.exit 0)))
 (.seq (.block 1 (.seq (jr [q8 1 7,q40_ 16 1 0,qs 17 16,q7 18 0])
 (.block 2 (.loop [false,true,false,false,false,false,false,true,false,true,true,false,false,false,false,false,true,true,true,false,false,false,false,false,false] (.seq (jr [qa 19 18 17])
 (.seq (.cond (.v 19) .skip (.exit 2))
 (.seq (.block 3 (.seq (jr [qo 3 16 18,q44_ 3 0,js 11 (.alloc wge [(.int .i64 0),(.int .i64 0),(.int .i64 0)]),qg 3 11 1])
 (.seq (.region true [] [q8 0 11,q2 1 0,q0 9,q0 10,q3 1 2 3,q2 1 4,jn (.bin false .eql (.r 1) (.r 5)),qc 6,q9 7 1,q54_ 7 1 11,qk 7 1 9,qt 7 1 8 10,qk 7 1 11,q71_ 7 12 0,qi 7 13,qc 14,q9 15 9,q54_ 15 2 11,qk 15 1 17,jt 15 (.call false w7k [(.r 16),(.r 18)]),q84_ 15 19,qn 20 15 20])
 (.cond (.v 20) (jr [q0 9,q8 2 11,q2 1 1,qm 1 2,q37_ 1 0 3,q1 9 4]) .skip))))
 (jr [qd 18 1,q1 18 0]))))))))
 (jr [q0 10,q5 0 1,q1 10 1]))))))
 (.seq (jr [q78_ 12 1])
 (.seq (.seq (jr [q48_ 21 9,qs 22 21,q7 23 0])
 (.block 4 (.loop [false,false,false,false,false,false,false,true,false,false,false,false,true,false,false,false,false,false,false,false,false,true,true,true,false] (.seq (jr [qa 24 23 22])
 (.seq (.cond (.v 24) .skip (.exit 4))
 (.seq (.block 5 (.seq (jr [qo 1 21 23,q2 1 0,q1 13 1])
 (jr [q0 12,q8 0 7,q2 1 1,q0 13,q3 1 2 3,q2 1 4,jn (.call false w7g [(.r 5)]),q52_ 1 6,q69_ 1 0 7,q1 12 8])))
 (jr [qd 23 1,q1 23 0])))))))
 (.seq (jr [q0 12,jn (.callm w7q [(.r 0),(.c (.clo w7h []))])])
 (.seq (jr [q0 12,q1 5 0,ql 6])
 .ret))))))))),
 [.v 5,.v 6]⟩
def wdm:IFun:=⟨[0,1,2,3,6],
 (.seq (jr [qy 3 2 0,q4 4])
 (.seq (jr [qj 2 3,q0 1,jn (.call false w9g [(.r 0),(.r 1)]),qc 2,q9 3 2,jt 3 (.call false w95 [(.r 4),(jc 1),(jc 400)]),qi 3 5,q1 4 6])
 .ret)),
 [.v 4]⟩
def wdc:IFun:=⟨[0,1,4,5,10,12,13,14,24],
 (.seq (jr [q4 2])
 (.seq (.seq (jr [q0 0,qu 0,q0 1,qu 2,q65_ 4 1 3])
 (.cond (.v 4) (.seq (jr [q4 2])
 .ret) .skip))
 (.seq (.seq (jr [q0 0,q62_ 5 0,q7 6 0])
 (.block 0 (.loop [true,true,false,false,false,true,true,false,false] (.seq (jr [qa 7 6 5])
 (.seq (.cond (.v 7) .skip (.exit 0))
 (.seq (.block 1 (.seq (jr [q0 6,q1 3 0])
 (.seq (.region true [] [q0 0,q0 3,q3 1 0 1,q2 1 2,q0 1,q0 3,q3 1 4 5,q2 1 6,q65_ 8 3 7])
 (.cond (.v 8) (.seq (jr [q4 2])
 .ret) .skip))))
 (jr [qd 6 1,q1 6 0])))))))
 (.seq (jr [ql 2])
 .ret)))),
 [.v 2]⟩
def wdo:IFun:=⟨[0,1,4,5,6,7,8,9,10,16],
 (.seq (jr [q7 2 0])
 (.seq (.seq (jr [q48_ 5 0,qs 6 5,q7 7 0])
 (.block 0 (.loop [false,true,false,false,false,true,true,true,false,false] (.seq (jr [qa 8 7 6])
 (.seq (.cond (.v 8) .skip (.exit 0))
 (.seq (.block 1 (.seq (jr [q0 7,qo 1 5 7,q2 1 1,q1 3 0,q1 4 2])
 (.seq (jr [q0 4,q0 1,js 9 (.call false w9c [(.r 0),(.r 1)])])
 (.cond (.v 9) (.seq (jr [q0 3,q1 2 0])
 .ret) .skip))))
 (jr [qd 7 1,q1 7 0])))))))
 (.seq (jr [q87_ 2])
 .ret))),
 [.v 2]⟩
def wdn:IFun:=⟨[0,1,2,3,6,7,8,9,11,12,13,22,31,32,33,34,52,66,69],
 (.seq (jr [qy 3 2 0,qx 4 1 3,q7 5 0])
 (.seq (jr [q0 1,jn (.call false w98 [(.r 0)]),q52_ 1 1,jn (.build [(.nil false 1),(.nil true 3)] [(0,1,(.r 2))]),qx 6 1 3,qg 2 6 3])
 (.seq (.seq (jr [q7 7 0])
 (.block 0 (.loop [false,false,true,true,true,false,true,true,false,false,false,false,false,false,false,false,false,false,false] (.seq (.seq (jr [q0 7,q8 0 6,q2 1 1,qu 2,q41_ 11 0 3])
 (.cond (.v 11) .skip (.exit 0)))
 (.seq (.block 1 (.seq (.region true [] [qj 2 3,q8 0 6,q2 1 1,q0 7,q3 1 2 3,q2 1 4,q7 14 0,js 12 (.call false w9e [(.r 0),(.r 5)]),qs 13 12])
 (.block 2 (.loop [false,false,true,true,true,false,true,true,false,false,false,false,true,true,true,false,false,false,false] (.seq (jr [qa 15 14 13])
 (.seq (.cond (.v 15) .skip (.exit 2))
 (.seq (.block 3 (.seq (jr [qo 1 12 14,q2 1 0,q1 8 1])
 (.seq (.region true [] [q8 1 3,q2 1 0,q0 8,q3 3 1 2,q44_ 3 3,q8 0 6,q2 1 5,q0 7,q3 1 6 7,q2 1 8,jn (.call false w9f [(.r 4),(.r 9)]),q1 9 10])
 (.seq (.seq (jr [q8 0 3,q2 1 0,q0 9,jn (.call false w8d [(.r 1),(.r 2)]),q53_ 16 3])
 (.cond (.v 16) (.seq (jr [q61_ 1 3,qg 2 4 0,q7 5 3])
 .ret) .skip))
 (.seq (jr [q8 0 6,q2 1 0,q0 9,jn (.call false w9o [(.r 1),(.r 2)]),q1 10 3])
 (.seq (.seq (jr [q0 10,jn (.bin false .lss (.r 0) (jc 0)),qc 1,q54_ 2 0 6,qk 2 1 3,q57_ 2 4,q9 2 2,q73_ 2 5 6,qn 17 2 7])
 (.cond (.v 17) (.seq (jr [q61_ 1 3,qg 2 4 0,q7 5 2])
 .ret) .skip))
 (.seq (.seq (jr [q0 10,q86_ 18 0 0])
 (.cond (.v 18) (.seq (jr [q8 0 6,q2 1 0,qu 1,q1 10 2])
 (jr [q8 0 6,q2 1 0,q0 9,q52_ 1 2,q69_ 1 1 3,q8 0 6,qb 1 5 4])) .skip))
 (jr [q8 1 6,q2 1 0,q0 7,q0 8,q0 10,jn (.build [(.int .i64 0),(.int .i64 0),(.int .i64 0)] [(0,1,(.r 2)),(1,1,(.r 3)),(2,1,(.r 4))]),jn (.bslice false wge true 3 [(.r 5)]),jn (.append wge true 3 (.r 1) (.r 6)),q8 1 6,qb 1 8 7]))))))))
 (jr [qd 14 1,q1 14 0]))))))))
 (jr [q0 7,q5 0 1,q1 7 1]))))))
 (.seq (jr [qj 2 6,qg 2 4 0,q7 5 1])
 .ret)))),
 [.cell true 2 4,.v 5]⟩
def wc9:IFun:=⟨[0,1,2,3,6,7,8,9,10,15],
 (.seq (jr [qy 3 2 0,qx 4 1 3,q7 5 0,q4 6])
 (.seq (.seq (jr [qj 2 3,q0 1,q0 2,jn (.call false w9m [(.r 0),(.r 1),(.r 2)]),q53_ 9 3])
 (.cond (.v 9) (.seq (jr [q61_ 1 3,qg 2 4 0,q7 5 0,q4 6])
 .ret) .skip))
 (.seq (jr [qj 2 3,q0 1,q0 2,jn (.call false w9n [(.r 0),(.r 1),(.r 2)]),qc 3,qe 4 0,qe 4 1,qx 7 1 3,qg 2 7 5,q1 8 6])
 (.seq (jr [qj 2 7,q0 8,qg 2 4 0,q1 5 1,ql 6])
 .ret)))),
 [.cell true 2 4,.v 5,.v 6]⟩
def wdl:IFun:=⟨[0,1,2,3,6,7,8,9,10],
 (.seq (jr [qy 3 2 0,qx 4 1 3,q4 5])
 (.seq (jr [qj 2 3,q0 1,q0 2,jn (.call false w89 [(.r 0),(.r 1),(.r 2)]),qc 3,qe 4 0,qe 4 1,qe 4 2,qx 6 1 3,qg 2 6 5,q1 7 6,q1 8 7])
 (.seq (jr [qj 2 6,q0 8,qc 1,q9 2 7,q71_ 2 3 1,qi 2 4,qg 2 4 0,q1 5 5])
 .ret))),
 [.cell true 2 4,.v 5]⟩
def wcc:IFun:=⟨[0,1,2,4],
 (.seq (jr [qy 2 2 0,q4 3])
 (.seq (jr [qj 2 2,jn (.call false w8e [(.r 0)]),qc 1,q9 2 1,q57_ 2 3,q54_ 2 1 2,qk 2 1 5,q57_ 2 6,q73_ 2 4 7,qi 2 8,qc 9,q9 10 1,jt 10 (.call false w8p [(.r 11),(jc 0),(jc 9)]),qi 10 12,q1 3 13])
 .ret)),
 [.v 3]⟩
def wco:IFun:=⟨[0,1,2,3,6,7,8,10,14,16,17,18,19,42],
 (.seq (jr [js 3 (.box wgi 2 (.v 0)),js 4 (.nilrow wgd true 1)])
 (.seq (jr [jn (.bslice false wgd true 1 []),q0 2,jn (.append wgd true 1 (.r 0) (.r 1)),q1 5 2])
 (.seq (.seq (jr [ql 6])
 (.block 0 (.loop [false,true,false,true,false,true,true,false,false,false,false,false,false,false] (.seq (.seq (jr [q48_ 8 6])
 (.cond (.v 8) .skip (.exit 0)))
 (.block 1 (.seq (jr [q4 6])
 (.seq (jr [q8 1 3,q40_ 9 1 0,qs 10 9,q7 11 0])
 (.block 2 (.loop [false,true,false,true,false,true,true,false,false,true,true,true,false,false] (.seq (jr [qa 12 11 10])
 (.seq (.cond (.v 12) .skip (.exit 2))
 (.seq (.block 3 (.seq (jr [qo 3 9 11,q44_ 3 0,js 7 (.alloc wge [(.int .i64 0),(.int .i64 0),(.int .i64 0)]),qg 3 7 1])
 (.seq (jr [q0 1,q8 1 7,q2 1 1,q3 1 0 2,q2 1 3,q56_ 4 0,qc 5,q9 6 5,q54_ 6 0 7,qk 6 1 8,qt 6 1 7 9,qk 6 1 10,qi 6 11,qc 12,q9 13 5,q54_ 13 2 7,qk 13 1 15,qt 13 1 14 16,qk 13 1 17,q84_ 13 18,qn 13 13 19])
 (.cond (.v 13) (.seq (jr [q0 5,q8 2 7,q2 1 1,q3 1 0 2,q55_ 1 3])
 (jr [ql 6])) .skip))))
 (jr [qd 11 1,q1 11 0])))))))))))))
 (.seq (jr [q0 5,q1 4 0])
 .ret)))),
 [.v 4]⟩
def wcq:IFun:=⟨[0,1,4,5,7,8,9,19,28],
 (.seq (jr [q7 2 0])
 (.seq (.seq (jr [q0 0,q62_ 4 0,q7 5 0])
 (.block 0 (.loop [true,true,false,false,true,true,false,false,false] (.seq (jr [qa 6 5 4])
 (.seq (.cond (.v 6) .skip (.exit 0))
 (.seq (.block 1 (.seq (jr [q0 5,q1 3 0])
 (.seq (.seq (.region true [] [q0 0,q0 3,q3 1 0 1,q2 1 2,q0 1,q0 3,q3 1 4 5,q2 1 6,q41_ 7 3 7])
 (.cond (.v 7) (.seq (jr [q87_ 2])
 .ret) .skip))
 (.seq (.region true [] [q0 0,q0 3,q3 1 0 1,q2 1 2,q0 1,q0 3,q3 1 4 5,q2 1 6,q74_ 8 3 7])
 (.cond (.v 8) (.seq (jr [q7 2 1])
 .ret) .skip)))))
 (jr [qd 5 1,q1 5 0])))))))
 (.seq (jr [q7 2 0])
 .ret))),
 [.v 2]⟩
def wd6:IFun:=⟨[0,1,4,5,6,8,9,10,11,12,13,20,27,38],
 (.seq (jr [q78_ 2 1])
 (.seq (jr [q78_ 3 1])
 (.seq (jr [q4 4])
 (.seq (.seq (jr [q48_ 7 0,qs 8 7,q7 9 0])
 (.block 0 (.loop [true,true,false,true,true,false,false,true,true,true,false,false,false,false] (.seq (jr [qa 10 9 8])
 (.seq (.cond (.v 10) .skip (.exit 0))
 (.seq (.block 1 (.seq (jr [qo 1 7 9,q2 1 0,q1 5 1])
 (.seq (jr [q0 1,q0 5,jn (.call false w8q [(.r 0),(.r 1)]),q1 6 2])
 (.seq (.seq (jr [q0 6,q82_ 11 0 0])
 (.cond (.v 11) (.seq (jr [q0 0,q1 2 0])
 .ret) .skip))
 (.seq (.seq (jr [q0 6,jn (.bin false .lss (.r 0) (jc 0)),qc 1,q9 2 4,q84_ 2 3,qn 12 2 4])
 (.cond (.v 12) (.seq (jr [q0 3,q0 1,q52_ 1 1,q69_ 1 0 2,q1 3 3])
 (jr [ql 4])) .skip))
 (jr [q0 3,q0 5,q52_ 1 1,q69_ 1 0 2,q1 3 3]))))))
 (jr [qd 9 1,q1 9 0])))))))
 (.seq (.seq (jr [q0 4,q53_ 13 0])
 (.cond (.v 13) (jr [q0 3,q0 1,q52_ 1 1,q69_ 1 0 2,q1 3 3]) .skip))
 (.seq (jr [q0 3,q1 2 0])
 .ret)))))),
 [.v 2]⟩
def wcg:IFun:=⟨[0,1,2,3,4,8,9,10,11,12,13,14,15,30,40,41,42,43,47],
 (.seq (jr [qy 4 2 0,q78_ 5 1,q4 6])
 (.seq (jr [qj 2 4,q0 2,q0 3,jn (.call false w9l [(.r 0),(.r 1),(.r 2)]),qc 3,qe 4 0,qe 4 1,qx 7 1 3,qg 2 7 5,q1 8 6])
 (.seq (.seq (jr [q0 8,q79_ 0,qc 1,q70_ 2 2 4,q36_ 2 1,jf 2 (.call false w8c [(.r 3),(.r 4)]),q58_ 2 5,qr 13 2 6])
 (.cond (.v 13) (.seq (jr [q78_ 5 1,q4 6])
 .ret) .skip))
 (.seq (jr [q8 0 7,q2 1 0,qu 1,q77_ 1 2,q1 9 3])
 (.seq (jr [q0 9,jn (.iaddr 1 (.r 0) (jc 0)),q55_ 1 1])
 (.seq (jr [q78_ 10 1])
 (.seq (.seq (jr [qj 2 7,q0 1,q0 9,js 14 (.call false w8o [(.r 0),(.r 1),(.r 2)]),qs 15 14,q7 16 0])
 (.block 0 (.loop [false,false,false,false,false,false,false,true,false,false,true,false,false,false,true,true,true,false,false] (.seq (jr [qa 17 16 15])
 (.seq (.cond (.v 17) .skip (.exit 0))
 (.seq (.block 1 (.seq (jr [q0 16,qo 1 14 16,q2 1 1,q1 11 0,q1 12 2])
 (.seq (jr [q48_ 18 12])
 (.cond (.v 18) (jr [q0 10,q8 0 7,q2 1 1,q0 11,q3 1 2 3,q2 1 4,jn (.call false w98 [(.r 5)]),jn (.call false w96 [(.r 0),(.r 6)]),q1 10 7]) .skip))))
 (jr [qd 16 1,q1 16 0])))))))
 (.seq (jr [q0 10,q1 5 0,ql 6])
 .ret)))))))),
 [.v 5,.v 6]⟩
def wbc:IFun:=⟨[0,1,4,5,10,12,13,14,24],
 (.seq (jr [q4 2])
 (.seq (.seq (jr [q0 0,qu 0,q0 1,qu 2,q65_ 4 1 3])
 (.cond (.v 4) (.seq (jr [q4 2])
 .ret) .skip))
 (.seq (.seq (jr [q0 0,q62_ 5 0,q7 6 0])
 (.block 0 (.loop [true,true,false,false,false,true,true,false,false] (.seq (jr [qa 7 6 5])
 (.seq (.cond (.v 7) .skip (.exit 0))
 (.seq (.block 1 (.seq (jr [q0 6,q1 3 0])
 (.seq (.region true [] [q0 0,q0 3,q3 1 0 1,q2 1 2,q0 1,q0 3,q3 1 4 5,q2 1 6,q65_ 8 3 7])
 (.cond (.v 8) (.seq (jr [q4 2])
 .ret) .skip))))
 (jr [qd 6 1,q1 6 0])))))))
 (.seq (jr [ql 2])
 .ret)))),
 [.v 2]⟩
def wbd:IFun:=⟨[0,1,4,5,10,12,13,14,25],
 (.seq (jr [q4 2])
 (.seq (.seq (jr [q0 0,qu 0,q0 1,qu 2,q65_ 4 1 3])
 (.cond (.v 4) (.seq (jr [q4 2])
 .ret) .skip))
 (.seq (.seq (jr [q0 0,q62_ 5 0,q7 6 0])
 (.block 0 (.loop [true,true,false,false,false,true,true,false,false] (.seq (jr [qa 7 6 5])
 (.seq (.cond (.v 7) .skip (.exit 0))
 (.seq (.block 1 (.seq (jr [q0 6,q1 3 0])
 (.seq (.region true [] [q0 0,q0 3,q3 1 0 1,q2 1 2,q0 1,q0 3,q3 1 4 5,q2 1 6,jn (.call false w7b [(.r 3),(.r 7)]),q53_ 8 8])
 (.cond (.v 8) (.seq (jr [q4 2])
 .ret) .skip))))
 (jr [qd 6 1,q1 6 0])))))))
 (.seq (jr [ql 2])
 .ret)))),
 [.v 2]⟩
def wbb:IFun:=⟨[0,1,4,6,7,8,9,10,15],
 (.seq (jr [q4 2])
 (.seq (.seq (jr [q48_ 4 0,qs 5 4,q7 6 0])
 (.block 0 (.loop [false,true,false,false,true,true,true,false,false] (.seq (jr [qa 7 6 5])
 (.seq (.cond (.v 7) .skip (.exit 0))
 (.seq (.block 1 (.seq (jr [qo 1 4 6,q2 1 0,q1 3 1])
 (.seq (jr [q0 3,q0 1,js 8 (.call false w7b [(.r 0),(.r 1)])])
 (.cond (.v 8) (.seq (jr [ql 2])
 .ret) .skip))))
 (jr [qd 6 1,q1 6 0])))))))
 (.seq (jr [q4 2])
 .ret))),
 [.v 2]⟩
def wb6:IFun:=⟨[0,1,2,4],
 (.seq (jr [qy 2 2 0,q4 3])
 (.seq (jr [q0 1,q8 1 2,q2 1 1,qu 2,q6 3 1,jn (.call false w77 [(.r 0),(jc 0),(.r 4)]),q1 3 5])
 .ret)),
 [.v 3]⟩
def wax:IFun:=⟨[0,2,3,6],
 (.seq (jr [qh 1 1,q4 2])
 (.seq (.seq (jr [q0 0,jn (.call false w6u [(.r 0),(jc 0),(jc 50)]),q53_ 3 1])
 (.cond (.v 3) (.seq (jr [qh 1 1,q4 2])
 .ret) .skip))
 (.seq (jr [q0 0,q1 1 0,ql 2])
 .ret))),
 [.v 1,.v 2]⟩
def wak:IFun:=⟨[0,1,2,3,6,7,27],
 (.seq (jr [qy 3 2 0,qh 4 1,q4 5])
 (.seq (.seq (jr [qj 2 3,q0 1,jn (.call false w74 [(.r 0),(.r 1)]),q79_ 2,qc 3,q70_ 4 2 3,q36_ 4 2,jf 4 (.call false w75 [(.r 5),(.r 6)]),q58_ 4 7,qv 4 8,qc 9,q39_ 10 1 3,qq 10 1 11,q36_ 10 2,q88_ 10 3 12 13,jf 10 (.load true 3 (.r 14)),q36_ 10 1,jf 10 (.call false w72 [(.r 15),(.r 16)]),q58_ 10 17,qr 6 10 18])
 (.cond (.v 6) (.seq (jr [qh 4 1,q4 5])
 .ret) .skip))
 (.seq (jr [q8 1 3,q2 1 0,q0 2,q3 3 1 2,q44_ 3 3,q0 1,jn (.call false w70 [(.r 4),(.r 5)]),jn (.call false w6x [(.r 6)]),qe 7 0,qe 7 1,q1 4 8,q1 5 9])
 .ret))),
 [.v 4,.v 5]⟩
def wc7:IFun:=⟨[0,2,3,4,5,6,7,9,10,23],
 (.seq (jr [q66_ 1 0 3,qh 2 1,qh 3 1])
 (.seq (jr [q0 0,jn (.build [(.nil true 1),(.int .i64 0),(.int .u64 0)] [(0,1,(.r 0))]),jn (.box wgn 3 (.r 1)),q1 4 2])
 (.seq (jr [q0 4,jn (.callm w8w [(.r 0)]),qc 1,qe 2 0,qe 2 1,qe 2 2,qw 5 0 3 0 0,qg 4 5 3,q1 6 4,qc 5])
 (.seq (jr [qh 7 1])
 (.seq (.seq (jr [q0 4,q60_ 0 10,q1 8 1])
 (.block 0 (.loop [false,true,false,false,true,true,true,true,true,false] (.seq (.seq (jr [q0 8,q63_ 9 0 0])
 (.cond (.v 9) .skip (.exit 0)))
 (.seq (.block 1 (jr [q0 7,q0 4,q0 6,qu 2,jn (.call false w97 [(jc 1),(.r 3)]),q50_ 1 4,qm 1 5,q37_ 1 0 6,q1 7 7]))
 (jr [q0 8,q6 0 1,q1 8 1]))))))
 (.seq (jr [q8 0 5,q44_ 2 0,q0 6,q0 7,qg 2 1 1,q1 2 2,q1 3 3])
 .ret)))))),
 [.cell true 2 1,.v 2,.v 3]⟩
def waw:IFun:=⟨[0,1,2,4],
 (.seq (jr [qy 2 2 0,q4 3])
 (.seq (jr [q0 1,qu 0,jn (.bin false .leq (.r 1) (jc 60)),qc 2,q9 3 1,q54_ 3 1 2,qk 3 1 5,q57_ 3 6,q72_ 3 7 1,jt 3 (.call false w6u [(.r 4),(jc 0),(.r 8)]),qi 3 9,q1 3 10])
 .ret)),
 [.v 3]⟩
def wat:IFun:=⟨[0,1,2,3,6,7,8,10,20,21,22,23,24,31],
 (.seq (jr [qy 3 2 0,qh 4 1,q4 5])
 (.seq (.seq (jr [qj 2 3,q0 1,jn (.call false w6m [(.r 0),(.r 1)]),q79_ 2,qc 3,q70_ 4 2 3,q36_ 4 2,jf 4 (.call false w6w [(.r 5),(.r 6)]),q58_ 4 7,qr 8 4 8])
 (.cond (.v 8) (.seq (jr [qh 4 1,q4 5])
 .ret) .skip))
 (.seq (jr [qh 6 1])
 (.seq (.seq (jr [q48_ 9 2,qs 10 9,q7 11 0])
 (.block 0 (.loop [false,true,false,false,false,false,true,false,false,true,true,true,false,false] (.seq (jr [qa 12 11 10])
 (.seq (.cond (.v 12) .skip (.exit 0))
 (.seq (.block 1 (.seq (jr [qo 1 9 11,q2 1 0,q1 7 1])
 (.seq (jr [q0 1,q0 7,q3 1 0 1,q2 1 2,q63_ 13 3 0])
 (.cond (.v 13) (jr [q0 6,q0 1,q0 7,q3 1 1 2,q2 1 3,qm 1 4,q37_ 1 0 5,q1 6 6]) .skip))))
 (jr [qd 11 1,q1 11 0])))))))
 (.seq (jr [q0 6,q1 4 0,ql 5])
 .ret))))),
 [.v 4,.v 5]⟩
def wcj:IFun:=⟨[0,1,2,3,6,7,8,10,28,29,30,31,32,39],
 (.seq (jr [qy 3 2 0,qh 4 1,q4 5])
 (.seq (.seq (jr [qj 2 3,q0 1,jn (.call false w8c [(.r 0),(.r 1)]),q79_ 2,qc 3,q36_ 4 2,q68_ 4 5,q83_ 4 6 60,qv 4 7,qc 8,q36_ 9 2,q39_ 9 1 3,qq 9 1 11,q68_ 9 12,q64_ 9 13 1,jf 9 (.call false w8p [(.r 10),(jc 0),(.r 14)]),q58_ 9 15,qr 8 9 16])
 (.cond (.v 8) (.seq (jr [qh 4 1,q4 5])
 .ret) .skip))
 (.seq (jr [qh 6 1])
 (.seq (.seq (jr [q48_ 9 2,qs 10 9,q7 11 0])
 (.block 0 (.loop [false,true,false,false,false,false,true,false,false,true,true,true,false,false] (.seq (jr [qa 12 11 10])
 (.seq (.cond (.v 12) .skip (.exit 0))
 (.seq (.block 1 (.seq (jr [qo 1 9 11,q2 1 0,q1 7 1])
 (.seq (jr [q0 1,q0 7,q3 1 0 1,q2 1 2,q63_ 13 3 0])
 (.cond (.v 13) (jr [q0 6,q0 1,q0 7,q3 1 1 2,q2 1 3,qm 1 4,q37_ 1 0 5,q1 6 6]) .skip))))
 (jr [qd 11 1,q1 11 0])))))))
 (.seq (jr [q0 6,q1 4 0,ql 5])
 .ret))))),
 [.v 4,.v 5]⟩
def wb9:IFun:=⟨[0,1,4,5,6,7,8,9,10,11,12,14,15,16,17,18,19,20,21,22,23,24,27,68,69,73,74,75,76,77,82,83,84,106],
 (.seq (jr [q4 2])
 (.seq (.seq (jr [q0 0,q0 1,js 22 (.call false w79 [(.r 0),(.r 1)])])
 (.cond (.v 22) (.seq (jr [ql 2])
 .ret) .skip))
 (.seq (jr [q0 0,jn (.call false w86 [(.r 0)]),qc 1,qe 2 0,qe 2 1,qe 2 2,qe 2 3,q66_ 3 0 3,qg 2 3 3,q1 4 4,q1 5 5,q1 6 6])
 (.seq (jr [qj 2 3,q0 4,q0 5,q0 6,jn (.call false w6q [(.r 0),(.r 1),(.r 2),(.r 3)]),qc 4,qe 5 0,qe 5 1,q1 7 6,q1 8 7])
 (.seq (jr [qj 2 3,q0 4,q0 5,q0 6,jn (.call false w8g [(.r 0),(.r 1),(.r 2),(.r 3)]),qc 4,qe 5 0,qe 5 1,q1 9 6,q1 10 7])
 (.seq (.seq (.region true [(14,12)] [q0 8,q0 10,jn (.bin true .neq (.r 0) (.r 1)),qc 2,q36_ 3 7,q36_ 3 9,jf 3 (.call false w7c [(.r 4),(.r 5)]),q58_ 3 6,qv 3 7,qc 8,q70_ 9 2 3,q36_ 9 4,q70_ 9 2 3,q36_ 9 4,jf 9 (.call false w6m [(.r 10),(.r 11)]),jf 9 (.call false w8c [(.r 12),(.r 13)]),jf 9 (.bin true .neq (.r 14) (.r 15)),qr 23 9 16])
 (.cond (.v 23) (.seq (jr [q4 2])
 .ret) .skip))
 (.seq (.seq (jr [q48_ 24 8])
 (.cond (.v 24) (.seq (.seq (jr [q0 7,q0 5,jn (.call false w7a [(.r 0),(.r 1)]),q53_ 25 2])
 (.cond (.v 25) (.seq (jr [q4 2])
 .ret) .skip))
 (.seq (jr [q48_ 26 7,qs 27 26,q7 28 0])
 (.block 0 (.loop [false,true,false,true,true,false,false,true,false,false,false,false,false,false,false,false,false,false,false,false,false,false,false,false,false,false,true,true,true,false,false,false,false,false] (.seq (jr [qa 29 28 27])
 (.seq (.cond (.v 29) .skip (.exit 0))
 (.seq (.block 1 (.seq (jr [qo 1 26 28,q2 1 0,q1 11 1])
 (.seq (jr [q8 1 3,q2 1 0,q62_ 30 1,q7 31 0])
 (.block 2 (.loop [false,true,false,true,true,false,false,true,false,false,false,true,false,false,false,false,false,false,false,false,false,false,false,false,false,false,true,true,true,false,true,true,false,false] (.seq (jr [qa 32 31 30])
 (.seq (.cond (.v 32) .skip (.exit 2))
 (.seq (.block 3 (.seq (jr [q0 31,q1 12 0])
 (.seq (jr [qj 2 3,q0 11,q0 12,jn (.call false w6l [(.r 0),(.r 1),(.r 2)]),qc 3,qe 4 0,qe 4 1,q1 13 5,q1 14 6])
 (.seq (jr [q0 14,qc 0,q9 1 4,q9 1 12,qt 1 1 2 3,qk 1 1 4,q71_ 1 5 0,qi 1 6,qc 7,q9 8 7,q9 8 13,jt 8 (.call false w7a [(.r 9),(.r 10)]),q84_ 8 11,qn 33 8 12])
 (.cond (.v 33) (.seq (jr [q4 2])
 .ret) .skip)))))
 (jr [qd 31 1,q1 31 0])))))))))
 (jr [qd 28 1,q1 28 0])))))))) .skip))
 (.seq (jr [q0 1,jn (.call false w87 [(.r 0)]),qc 1,qe 2 0,qe 2 1,qe 2 2,q66_ 15 0 3,qg 2 15 3,q1 16 4,q1 17 5])
 (.seq (jr [qj 2 15,q0 16,q0 17,jn (.call false w6t [(.r 0),(.r 1),(.r 2)]),qc 3,qe 4 0,qe 4 1,q1 18 5,q1 19 6])
 (.seq (jr [qj 2 15,q0 16,q0 17,jn (.call false w8j [(.r 0),(.r 1),(.r 2)]),qc 3,qe 4 0,qe 4 1,q1 20 5,q1 21 6])
 (.seq (jr [q0 19,q0 21,jn (.bin true .eql (.r 0) (.r 1)),qc 2,q9 3 18,q9 3 20,jt 3 (.call false w7b [(.r 4),(.r 5)]),qi 3 6,qc 7,q9 8 18,q57_ 8 9,q9 8 17,q57_ 8 11,jt 8 (.bin false .leq (.r 10) (.r 12)),qi 8 13,q1 2 14])
 .ret))))))))))),
 [.v 2]⟩
def tbl:List (FuncId×IFun):=[(w79,wba),(w8z,wcz),(w91,wd1),(w90,wd0),(w8s,wcs),(w8r,wcr),(w93,wd3),(w95,wd5),(w8n,wcn),(w8l,wcl),(w8m,wcm),(w8k,wck),(w99,wd9),(w9b,wdb),(w8e,wce),(w9j,wdj),(w9h,wdh),(w9i,wdi),(w8f,wcf),(w94,wd4),(w8b,wcb),(w8i,wci),(w9a,wda),(w8v,wcv),(w92,wd2),(w8u,wcu),(w8w,wcw),(w9k,wdk),(w8h,wch),(w8t,wct),(w98,wd8),(w8p,wcp),(w8d,wcd),(w9g,wdg),(w9d,wdd),(w9e,wde),(w88,wc8),(w9f,wdf),(w8a,wca),(w97,wd7),(w8x,wcx),(w8y,wcy),(w86,wc6),(w77,wb8),(w71,wb2),(w6u,wau),(w6v,wav),(w6p,wao),(w7m,wbm),(w7i,wbi),(w6o,wan),(w6n,wam),(w74,wb5),(w73,wb4),(w7n,wbn),(w7j,wbj),(w72,wb3),(w6y,waz),(w70,wb1),(w7l,wbl),(w6s,war),(w7o,wbo),(w6r,waq),(w6z,wb0),(w6k,waj),(w76,wb7),(w6m,wal),(w7p,wbp),(w7k,wbk),(w7e,wbf),(w7f,wbg),(w7d,wbe),(w7u,wbu),(w84,wc4),(w7t,wbt),(w7x,wbx),(w85,wc5),(w7r,wbr),(w7y,wby),(w7w,wbw),(w7v,wbv),(w7s,wbs),(w83,wc3),(w7z,wbz),(w81,wc1),(w80,wc0),(w82,wc2),(w7q,wbq),(w6j,wai),(w6i,wah),(w7h,wbh),(w6q,wap),(w9m,wdm),(w9c,wdc),(w9o,wdo),(w9n,wdn),(w89,wc9),(w9l,wdl),(w8c,wcc),(w8o,wco),(w8q,wcq),(w96,wd6),(w8g,wcg),(w7b,wbc),(w7c,wbd),(w7a,wbb),(w75,wb6),(w6x,wax),(w6l,wak),(w87,wc7),(w6w,waw),(w6t,wat),(w8j,wcj),(w78,wb9)]
def F(f:FuncId):Option IFun:=(tbl.find? fun p=>p.1 == f).map (·.2)
def exts:List (FuncId×(List PV→Option PV)):=[(w7g,w6g)]
def ext(f:FuncId):Option (List PV→Option PV):=(exts.find? fun p=>p.1 == f).map (·.2)
noncomputable def C:Orc:=lim F ext
@[go_sem] abbrev Wr(i:IFun)(a:List PV)(M:List Blk)(r:PV×List Blk):Prop:=W C M.length i.body ⟨start i a,M⟩ (Lv M.length i.results r)
@[go_sem] abbrev We(i:IFun)(a:List PV)(M:List Blk)(P:PV×List Blk→Prop):Prop:=W C M.length i.body ⟨start i a,M⟩ (Le' M.length i.results P)
variable {a : List PV} {M : List Blk} {r : PV × List Blk} {P : PV × List Blk → Prop}
theorem w0r(h:Wr wba a M r):C w79 a M=some r:=z8c rfl rfl h
theorem w2z(h:We wcz a M P):Lw (C w8z a M) P:=z89 rfl rfl h
theorem w31(h:We wd1 a M P):Lw (C w91 a M) P:=z89 rfl rfl h
theorem w30(h:We wd0 a M P):Lw (C w90 a M) P:=z89 rfl rfl h
theorem w2s(h:We wcs a M P):Lw (C w8s a M) P:=z89 rfl rfl h
theorem w2r(h:We wcr a M P):Lw (C w8r a M) P:=z89 rfl rfl h
theorem w33(h:We wd3 a M P):Lw (C w93 a M) P:=z89 rfl rfl h
theorem w1x(h:Wr wd5 a M r):C w95 a M=some r:=z8c rfl rfl h
theorem w1s(h:Wr wcn a M r):C w8n a M=some r:=z8c rfl rfl h
theorem w1q(h:Wr wcl a M r):C w8l a M=some r:=z8c rfl rfl h
theorem w1r(h:Wr wcm a M r):C w8m a M=some r:=z8c rfl rfl h
theorem w1p(h:Wr wck a M r):C w8k a M=some r:=z8c rfl rfl h
theorem w20(h:Wr wd9 a M r):C w99 a M=some r:=z8c rfl rfl h
theorem w22(h:Wr wdb a M r):C w9b a M=some r:=z8c rfl rfl h
theorem w1j(h:Wr wce a M r):C w8e a M=some r:=z8c rfl rfl h
theorem w2a(h:Wr wdj a M r):C w9j a M=some r:=z8c rfl rfl h
theorem w28(h:Wr wdh a M r):C w9h a M=some r:=z8c rfl rfl h
theorem w29(h:Wr wdi a M r):C w9i a M=some r:=z8c rfl rfl h
theorem w1k(h:Wr wcf a M r):C w8f a M=some r:=z8c rfl rfl h
theorem w1w(h:Wr wd4 a M r):C w94 a M=some r:=z8c rfl rfl h
theorem w1g(h:Wr wcb a M r):C w8b a M=some r:=z8c rfl rfl h
theorem w1n(h:Wr wci a M r):C w8i a M=some r:=z8c rfl rfl h
theorem w35(h:We wda a M P):Lw (C w9a a M) P:=z89 rfl rfl h
theorem w21(h:Wr wda a M r):C w9a a M=some r:=z8c rfl rfl h
theorem w2v(h:We wcv a M P):Lw (C w8v a M) P:=z89 rfl rfl h
theorem w32(h:We wd2 a M P):Lw (C w92 a M) P:=z89 rfl rfl h
theorem w2u(h:We wcu a M P):Lw (C w8u a M) P:=z89 rfl rfl h
theorem w2w(h:We wcw a M P):Lw (C w8w a M) P:=z89 rfl rfl h
theorem w2b(h:Wr wdk a M r):C w9k a M=some r:=z8c rfl rfl h
theorem w1m(h:Wr wch a M r):C w8h a M=some r:=z8c rfl rfl h
theorem w2t(h:We wct a M P):Lw (C w8t a M) P:=z89 rfl rfl h
theorem w1z(h:Wr wd8 a M r):C w98 a M=some r:=z8c rfl rfl h
theorem w1u(h:Wr wcp a M r):C w8p a M=some r:=z8c rfl rfl h
theorem w1i(h:Wr wcd a M r):C w8d a M=some r:=z8c rfl rfl h
theorem w27(h:Wr wdg a M r):C w9g a M=some r:=z8c rfl rfl h
theorem w24(h:Wr wdd a M r):C w9d a M=some r:=z8c rfl rfl h
theorem w25(h:Wr wde a M r):C w9e a M=some r:=z8c rfl rfl h
theorem w1d(h:Wr wc8 a M r):C w88 a M=some r:=z8c rfl rfl h
theorem w26(h:Wr wdf a M r):C w9f a M=some r:=z8c rfl rfl h
theorem w1f(h:Wr wca a M r):C w8a a M=some r:=z8c rfl rfl h
theorem w1y(h:Wr wd7 a M r):C w97 a M=some r:=z8c rfl rfl h
theorem w2x(h:We wcx a M P):Lw (C w8x a M) P:=z89 rfl rfl h
theorem w2y(h:We wcy a M P):Lw (C w8y a M) P:=z89 rfl rfl h
theorem w2p(h:We wc6 a M P):Lw (C w86 a M) P:=z89 rfl rfl h
theorem w0p(h:Wr wb8 a M r):C w77 a M=some r:=z8c rfl rfl h
theorem w0j(h:Wr wb2 a M r):C w71 a M=some r:=z8c rfl rfl h
theorem w0c(h:Wr wau a M r):C w6u a M=some r:=z8c rfl rfl h
theorem w0d(h:Wr wav a M r):C w6v a M=some r:=z8c rfl rfl h
theorem w07(h:Wr wao a M r):C w6p a M=some r:=z8c rfl rfl h
theorem w12(h:Wr wbm a M r):C w7m a M=some r:=z8c rfl rfl h
theorem w0y(h:Wr wbi a M r):C w7i a M=some r:=z8c rfl rfl h
theorem w06(h:Wr wan a M r):C w6o a M=some r:=z8c rfl rfl h
theorem w05(h:Wr wam a M r):C w6n a M=some r:=z8c rfl rfl h
theorem w0m(h:Wr wb5 a M r):C w74 a M=some r:=z8c rfl rfl h
theorem w0l(h:Wr wb4 a M r):C w73 a M=some r:=z8c rfl rfl h
theorem w13(h:Wr wbn a M r):C w7n a M=some r:=z8c rfl rfl h
theorem w0z(h:Wr wbj a M r):C w7j a M=some r:=z8c rfl rfl h
theorem w0k(h:Wr wb3 a M r):C w72 a M=some r:=z8c rfl rfl h
theorem w0g(h:Wr waz a M r):C w6y a M=some r:=z8c rfl rfl h
theorem w0i(h:Wr wb1 a M r):C w70 a M=some r:=z8c rfl rfl h
theorem w11(h:Wr wbl a M r):C w7l a M=some r:=z8c rfl rfl h
theorem w0a(h:Wr war a M r):C w6s a M=some r:=z8c rfl rfl h
theorem w14(h:Wr wbo a M r):C w7o a M=some r:=z8c rfl rfl h
theorem w09(h:Wr waq a M r):C w6r a M=some r:=z8c rfl rfl h
theorem w0h(h:Wr wb0 a M r):C w6z a M=some r:=z8c rfl rfl h
theorem w02(h:Wr waj a M r):C w6k a M=some r:=z8c rfl rfl h
theorem w0o(h:Wr wb7 a M r):C w76 a M=some r:=z8c rfl rfl h
theorem w04(h:Wr wal a M r):C w6m a M=some r:=z8c rfl rfl h
theorem w15(h:Wr wbp a M r):C w7p a M=some r:=z8c rfl rfl h
theorem w10(h:Wr wbk a M r):C w7k a M=some r:=z8c rfl rfl h
theorem w0w(h:Wr wbg a M r):C w7f a M=some r:=z8c rfl rfl h
theorem w0v(h:Wr wbe a M r):C w7d a M=some r:=z8c rfl rfl h
theorem w17(h:Wr wbu a M r):C w7u a M=some r:=z8c rfl rfl h
theorem w1c(h:Wr wc4 a M r):C w84 a M=some r:=z8c rfl rfl h
theorem w16(h:Wr wbt a M r):C w7t a M=some r:=z8c rfl rfl h
theorem w18(h:Wr wbx a M r):C w7x a M=some r:=z8c rfl rfl h
theorem w2o(h:We wc5 a M P):Lw (C w85 a M) P:=z89 rfl rfl h
theorem w2h(h:We wbr a M P):Lw (C w7r a M) P:=z89 rfl rfl h
theorem w2l(h:We wby a M P):Lw (C w7y a M) P:=z89 rfl rfl h
theorem w2k(h:We wbw a M P):Lw (C w7w a M) P:=z89 rfl rfl h
theorem w2j(h:We wbv a M P):Lw (C w7v a M) P:=z89 rfl rfl h
theorem w2i(h:We wbs a M P):Lw (C w7s a M) P:=z89 rfl rfl h
theorem w2n(h:We wc3 a M P):Lw (C w83 a M) P:=z89 rfl rfl h
theorem w19(h:Wr wbz a M r):C w7z a M=some r:=z8c rfl rfl h
theorem w1b(h:Wr wc1 a M r):C w81 a M=some r:=z8c rfl rfl h
theorem w1a(h:Wr wc0 a M r):C w80 a M=some r:=z8c rfl rfl h
theorem w2m(h:We wc2 a M P):Lw (C w82 a M) P:=z89 rfl rfl h
theorem w2g(h:We wbq a M P):Lw (C w7q a M) P:=z89 rfl rfl h
theorem w01(h:Wr wai a M r):C w6j a M=some r:=z8c rfl rfl h
theorem w00(h:Wr wah a M r):C w6i a M=some r:=z8c rfl rfl h
theorem w0x(h:Wr wbh a M r):C w7h a M=some r:=z8c rfl rfl h
theorem w08(h:Wr wap a M r):C w6q a M=some r:=z8c rfl rfl h
theorem w2d(h:Wr wdm a M r):C w9m a M=some r:=z8c rfl rfl h
theorem w23(h:Wr wdc a M r):C w9c a M=some r:=z8c rfl rfl h
theorem w2f(h:Wr wdo a M r):C w9o a M=some r:=z8c rfl rfl h
theorem w2e(h:Wr wdn a M r):C w9n a M=some r:=z8c rfl rfl h
theorem w1e(h:Wr wc9 a M r):C w89 a M=some r:=z8c rfl rfl h
theorem w2c(h:Wr wdl a M r):C w9l a M=some r:=z8c rfl rfl h
theorem w1h(h:Wr wcc a M r):C w8c a M=some r:=z8c rfl rfl h
theorem w1t(h:Wr wco a M r):C w8o a M=some r:=z8c rfl rfl h
theorem w1v(h:Wr wcq a M r):C w8q a M=some r:=z8c rfl rfl h
theorem w34(h:We wd6 a M P):Lw (C w96 a M) P:=z89 rfl rfl h
theorem w1l(h:Wr wcg a M r):C w8g a M=some r:=z8c rfl rfl h
theorem w0t(h:Wr wbc a M r):C w7b a M=some r:=z8c rfl rfl h
theorem w0u(h:Wr wbd a M r):C w7c a M=some r:=z8c rfl rfl h
theorem w0s(h:Wr wbb a M r):C w7a a M=some r:=z8c rfl rfl h
theorem w0n(h:Wr wb6 a M r):C w75 a M=some r:=z8c rfl rfl h
theorem w0f(h:Wr wax a M r):C w6x a M=some r:=z8c rfl rfl h
theorem w03(h:Wr wak a M r):C w6l a M=some r:=z8c rfl rfl h
theorem w2q(h:We wc7 a M P):Lw (C w87 a M) P:=z89 rfl rfl h
theorem w0e(h:Wr waw a M r):C w6w a M=some r:=z8c rfl rfl h
theorem w0b(h:Wr wat a M r):C w6t a M=some r:=z8c rfl rfl h
theorem w1o(h:Wr wcj a M r):C w8j a M=some r:=z8c rfl rfl h
theorem w0q(h:Wr wb9 a M r):C w78 a M=some r:=z8c rfl rfl h
theorem wdx{es:List PV}(h:es.length≤68719476736):C w7g [.sl true 1 es] []=some (.un t_int true 1 es,[]):=zpz (e:=w6g) rfl (by simp [w6g,zfe,h])
end Go.Proofs.YtbaclnecajkknaaGreat.Pi

