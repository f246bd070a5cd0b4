/- The forms of the functions that the law reaches, and their oracle. Definitions alone; no condition. -/
import Derived.Test.YtbaclnecajkknaaPiExt
namespace Go.Proofs.Ytbaclnecajkknaa.Pi
open Go
set_option linter.all false
abbrev t_int:TypeId:=3
abbrev wdz:TypeId:=4
abbrev we7:TypeId:=25
abbrev we2:TypeId:=32
abbrev we1:TypeId:=45
abbrev we5:TypeId:=52
abbrev we3:TypeId:=67
abbrev we6:TypeId:=71
abbrev we0:TypeId:=76
abbrev we9:TypeId:=85
abbrev wea:TypeId:=88
abbrev we4:TypeId:=92
abbrev we8:TypeId:=173
abbrev w6r:FuncId:=18
abbrev w7z:FuncId:=123
abbrev w81:FuncId:=80
abbrev w87:FuncId:=81
abbrev w7y:FuncId:=79
abbrev w82:FuncId:=82
abbrev w80:FuncId:=83
abbrev w7w:FuncId:=84
abbrev w7x:FuncId:=47
abbrev w7s:FuncId:=19
abbrev w6p:FuncId:=85
abbrev w6f:FuncId:=156
abbrev w64:FuncId:=73
abbrev w65:FuncId:=111
abbrev w5w:FuncId:=110
abbrev w75:FuncId:=155
abbrev w70:FuncId:=109
abbrev w5v:FuncId:=72
abbrev w79:FuncId:=74
abbrev w72:FuncId:=40
abbrev w6m:FuncId:=163
abbrev w76:FuncId:=171
abbrev w71:FuncId:=162
abbrev w6l:FuncId:=124
abbrev w66:FuncId:=125
abbrev w6k:FuncId:=86
abbrev w5u:FuncId:=48
abbrev w5r:FuncId:=49
abbrev w6w:FuncId:=120
abbrev w6x:FuncId:=121
abbrev w6v:FuncId:=76
abbrev w5p:FuncId:=122
abbrev w5o:FuncId:=132
abbrev w7f:FuncId:=126
abbrev w7p:FuncId:=164
abbrev w7e:FuncId:=127
abbrev w7i:FuncId:=158
abbrev w7q:FuncId:=159
abbrev w7c:FuncId:=128
abbrev w7j:FuncId:=172
abbrev w7h:FuncId:=166
abbrev w7g:FuncId:=165
abbrev w7d:FuncId:=129
abbrev w7o:FuncId:=130
abbrev w7k:FuncId:=131
abbrev w7l:FuncId:=133
abbrev w7m:FuncId:=134
abbrev w7n:FuncId:=87
abbrev w7b:FuncId:=51
abbrev w5s:FuncId:=50
abbrev w6y:FuncId:=41
abbrev w69:FuncId:=52
abbrev w5q:FuncId:=20
abbrev w84:FuncId:=60
abbrev w86:FuncId:=106
abbrev w88:FuncId:=107
abbrev w7u:FuncId:=67
abbrev w8b:FuncId:=135
abbrev w89:FuncId:=136
abbrev w8a:FuncId:=137
abbrev w7v:FuncId:=88
abbrev w83:FuncId:=89
abbrev w7t:FuncId:=53
abbrev w85:FuncId:=36
abbrev w8d:FuncId:=54
abbrev w8c:FuncId:=55
abbrev w7r:FuncId:=21
abbrev w6t:FuncId:=90
abbrev w6u:FuncId:=56
abbrev w6s:FuncId:=22
abbrev w6g:FuncId:=57
abbrev w6n:FuncId:=140
abbrev w6o:FuncId:=92
abbrev w6i:FuncId:=173
abbrev w6h:FuncId:=167
abbrev w6b:FuncId:=138
abbrev w6e:FuncId:=139
abbrev w73:FuncId:=142
abbrev w60:FuncId:=141
abbrev w77:FuncId:=97
abbrev w5z:FuncId:=94
abbrev w6d:FuncId:=91
abbrev w6c:FuncId:=93
abbrev w61:FuncId:=95
abbrev w78:FuncId:=96
abbrev w6a:FuncId:=143
abbrev w6j:FuncId:=99
abbrev w68:FuncId:=98
abbrev w63:FuncId:=145
abbrev w74:FuncId:=144
abbrev w7a:FuncId:=146
abbrev w62:FuncId:=100
abbrev w5y:FuncId:=148
abbrev w6z:FuncId:=147
abbrev w5x:FuncId:=101
abbrev w67:FuncId:=58
abbrev w5t:FuncId:=23
abbrev w6q:FuncId:=4
def w5m:List PV→Option PV:=zfv t_int true 1
@[go_sem] abbrev jn(o:IOp):IOper:=⟨none,o,none⟩
@[go_sem] abbrev js(k:Nat)(o:IOp):IOper:=⟨some k,o,none⟩
@[go_sem] abbrev jt(j:Nat)(o:IOp):IOper:=⟨none,o,some (j,true)⟩
@[go_sem] abbrev jf(j:Nat)(o:IOp):IOper:=⟨none,o,some (j,false)⟩
@[go_sem] abbrev jr(l:List IOper):ICode:=.region false [] l
@[go_sem] abbrev jc(n:Int):Opd:=.c (.int .i64 n)
@[go_sem] abbrev q0(a:Nat):IOper:=jn (.mov (.v a))
@[go_sem] abbrev q1(a:Nat)(b:Nat):IOper:=js a (.mov (.r b))
@[go_sem] abbrev q2(a:Nat)(b:Nat):IOper:=jn (.load false a (.r b))
@[go_sem] abbrev q3(a:Nat)(b:Nat)(c:Nat):IOper:=jn (.iaddr a (.r b) (.r c))
@[go_sem] abbrev q4(a:Nat)(b:Nat):IOper:=jn (.faddr a (.v b))
@[go_sem] abbrev q5(a:Nat):IOper:=js a (.mov (.c (.bool false)))
@[go_sem] abbrev q6(a:Nat)(b:Nat)(c:Nat):IOper:=jn (.store a (.v b) (.r c))
@[go_sem] abbrev q7(a:Nat)(b:Int):IOper:=jn (.bin false .add (.r a) (jc b))
@[go_sem] abbrev q8(a:Nat)(b:Nat)(c:Nat):IOper:=jn (.store a (.r b) (.r c))
@[go_sem] abbrev q9(a:Nat)(b:Int):IOper:=jn (.bin false .sub (.r a) (jc b))
@[go_sem] abbrev qa(a:Nat)(b:Nat)(c:Nat):IOper:=js a (.bin false .lss (.v b) (.v c))
@[go_sem] abbrev qb(a:Nat)(b:Int):IOper:=jn (.bin false .add (.v a) (jc b))
@[go_sem] abbrev qc(a:Nat)(b:Int):IOper:=js a (.mov (jc b))
@[go_sem] abbrev qd(a:Nat):IOper:=jn (.mov (.r a))
@[go_sem] abbrev qe(a:Nat)(b:Nat)(c:Nat):IOper:=jf a (.load false b (.r c))
@[go_sem] abbrev qf(a:Nat)(b:Nat):IOper:=jn (.faddr a (.r b))
@[go_sem] abbrev qg(a:Nat)(b:Nat):IOper:=jt a (.mov (.v b))
@[go_sem] abbrev qh(a:Nat)(b:Nat):IOper:=jn (.load true a (.v b))
@[go_sem] abbrev qi(a:Nat)(b:Int)(c:Nat)(d:Int)(e:Int):IOper:=js a (.alloc we1 [(.int .i64 b),(.nil false c),(.int .i64 d),(.int .i64 e)])
@[go_sem] abbrev qj(a:Nat)(b:Nat)(c:Nat):IOper:=jt a (.load false b (.r c))
@[go_sem] abbrev qk(a:Nat)(b:Nat):IOper:=jn (.pick (.r a) (.c (.bool true)) (.r b))
@[go_sem] abbrev ql(a:Nat)(b:Nat)(c:Nat)(d:Nat):IOper:=js a (.alloc we4 [(.nil true b),(.nil true c),(.nil true d)])
@[go_sem] abbrev qm(a:Nat)(b:Nat):IOper:=jn (.extract (.r a) b)
@[go_sem] abbrev qn(a:Nat)(b:Nat)(c:Nat):IOper:=jf a (.faddr b (.v c))
@[go_sem] abbrev qo(a:Nat)(b:Nat)(c:Nat):IOper:=jn (.iaddr a (.v b) (.v c))
@[go_sem] abbrev qp(a:Nat)(b:Nat)(c:Nat):IOper:=js a (.pick (.r b) (.c (.bool true)) (.r c))
@[go_sem] abbrev qq(a:Nat)(b:Nat):IOper:=jn (.bin false .add (.r a) (.r b))
@[go_sem] abbrev qr(a:Nat):IOper:=js a (.mov (.c (.bool true)))
@[go_sem] abbrev qs(a:Nat)(b:Nat):IOper:=js a (.nilrow t_int true b)
@[go_sem] abbrev qt(a:Nat)(b:Nat)(c:Nat):IOper:=js a (.pick (.r b) (.r c) (.c (.bool false)))
@[go_sem] abbrev qu(a:Nat)(b:Nat):IOper:=js a (.len false (.v b))
@[go_sem] abbrev qv(a:Nat)(b:Nat)(c:Nat)(d:Nat):IOper:=jt a (.iaddr b (.r c) (.r d))
@[go_sem] abbrev qw(a:Nat):IOper:=jn (.ncheck (.r a))
@[go_sem] abbrev qx(a:Nat)(b:Nat):IOper:=jn (.pick (.r a) (.r b) (.c (.bool false)))
@[go_sem] abbrev qy(a:Nat)(b:Nat):IOper:=jn (.bslice false t_int true a [(.r b)])
@[go_sem] abbrev qz(a:Nat):IOper:=jn (.len false (.r a))
@[go_sem] abbrev q36_(a:Nat)(b:Nat):IOper:=jn (.load true a (.r b))
@[go_sem] abbrev q37_(a:Nat)(b:Nat)(c:Nat):IOper:=js a (.load false b (.r c))
@[go_sem] abbrev q38_(a:Nat)(b:Int)(c:Int)(d:Nat)(e:Int):IOper:=js a (.alloc we5 [(.int .i64 b),(.int .i64 c),(.nil true d),(.int .i64 e)])
@[go_sem] abbrev q39_(a:Nat)(b:Nat)(c:Nat)(d:Nat)(e:Nat):IOper:=jn (.callm w7y [(.r a),(.r b),(.r c),(.r d),(.r e)])
@[go_sem] abbrev q40_(a:Nat)(b:Nat):IOper:=jn (.bin false .sub (.r a) (.r b))
@[go_sem] abbrev q41_(a:Nat)(b:Nat)(c:Nat):IOper:=jn (.append t_int true a (.r b) (.r c))
@[go_sem] abbrev q42_(a:Nat)(b:Nat)(c:Nat):IOper:=jt a (.call false w5o [(.r b),(.r c)])
@[go_sem] abbrev q43_(a:Nat)(b:Nat):IOper:=jf a (.mov (.v b))
@[go_sem] abbrev q44_(a:Nat)(b:Nat)(c:Nat):IOper:=js a (.bin false .lss (.r b) (.r c))
@[go_sem] abbrev q45_(a:Nat)(b:Nat):IOper:=jn (.load false a (.v b))
@[go_sem] abbrev q46_(a:Nat)(b:Nat)(c:Int):IOper:=js a (.bin false .geq (.r b) (jc c))
@[go_sem] abbrev q47_(a:Nat)(b:Nat)(c:Nat):IOper:=js a (.box we2 b (.v c))
@[go_sem] abbrev q48_(a:Nat)(b:Nat):IOper:=jn (.store a (.r b) (.c (.bool true)))
@[go_sem] abbrev q49_(a:Nat)(b:Int):IOper:=jn (.bin false .eql (.v a) (jc b))
@[go_sem] abbrev q50_(a:Nat)(b:Int):IOper:=jn (.bin false .shr (.r a) (.c (.int .u64 b)))
@[go_sem] abbrev q51_(a:Nat)(b:Nat):IOper:=jn (.mk wdz true a (.bool false) (.r b))
@[go_sem] abbrev q52_(a:Int)(b:Nat)(c:Int)(d:Int):IOper:=jn (.build [(.int .i64 a),(.nil false b),(.int .i64 c),(.int .i64 d)] [])
@[go_sem] abbrev q53_(a:Nat)(b:Nat)(c:Nat):IOper:=jn (.append we4 false a (.r b) (.r c))
@[go_sem] abbrev q54_(a:Nat)(b:Int)(c:Nat):IOper:=js a (.alloc we2 [(.int .i64 b),(.nil false c)])
@[go_sem] abbrev q55_(a:Nat)(b:Nat)(c:Nat):IOper:=js a (.box we1 b (.v c))
@[go_sem] abbrev q56_(a:Nat)(b:Nat):IOper:=jf a (.not (.r b))
@[go_sem] abbrev q57_(a:Nat)(b:Nat):IOper:=jn (.callm w81 [(.r a),(.r b)])
@[go_sem] abbrev q58_(a:Int)(b:Int)(c:Nat)(d:Int)(e:Nat)(f:Nat)(g:Int):IOper:=jn (.build [(.int .i64 a),(.int .i64 b),(.nil true c),(.int .i64 d)] [(e,f,(jc g))])
@[go_sem] abbrev q59_(a:Nat)(b:Nat)(c:Nat):IOper:=jt a (.faddr b (.v c))
@[go_sem] abbrev q60_(a:Nat)(b:Nat):IOper:=js a (.len false (.r b))
@[go_sem] abbrev q61_(a:Nat)(b:Nat)(c:Int):IOper:=jf a (.bin false .sub (.r b) (jc c))
@[go_sem] abbrev q62_(a:Nat)(b:Nat):IOper:=js a (.mov (.v b))
@[go_sem] abbrev q63_(a:Nat)(b:Int):IOper:=jn (.bin false .quo (.r a) (jc b))
@[go_sem] abbrev q64_(a:Nat)(b:Nat):IOper:=jn (.bslice false we4 false a [(.r b)])
@[go_sem] abbrev q65_(a:Nat)(b:Nat):IOper:=jf a (.len false (.r b))
@[go_sem] abbrev q66_(a:Nat)(b:Int):IOper:=jn (.bin false .mul (.r a) (jc b))
@[go_sem] abbrev q67_(a:Nat)(b:Int):IOper:=jn (.bin false .eql (.r a) (jc b))
@[go_sem] abbrev q68_(a:Nat)(b:Nat):IOper:=jn (.bin false .eql (.r a) (.r b))
@[go_sem] abbrev q69_(a:Nat)(b:Nat):IOper:=jn (.bin false .leq (.r a) (.r b))
@[go_sem] abbrev q70_(a:Nat)(b:Nat)(c:Nat):IOper:=js a (.alloc we3 [(.nil false b),(.nil true c)])
@[go_sem] abbrev q71_(a:Nat)(b:Nat)(c:Int):IOper:=js a (.bin false .gtr (.r b) (jc c))
@[go_sem] abbrev q72_(a:Nat)(b:Nat):IOper:=js a (.not (.r b))
@[go_sem] abbrev q73_(a:Nat)(b:Nat)(c:Int):IOper:=jt a (.bin false .sub (.r b) (jc c))
@[go_sem] abbrev q74_(a:Nat)(b:Nat)(c:Int):IOper:=js a (.bin false .lss (.r b) (jc c))
@[go_sem] abbrev q75_(a:Nat)(b:Nat)(c:Nat):IOper:=js a (.bin false .neq (.r b) (.r c))
@[go_sem] abbrev q76_(a:Nat)(b:Nat)(c:Nat):IOper:=jf a (.load true b (.v c))
@[go_sem] abbrev q77_(a:Nat):IOper:=jn (.not (.r a))
@[go_sem] abbrev q78_(a:Nat):IOper:=jn (.call false w6y [(.r a)])
@[go_sem] abbrev q79_(a:Nat)(b:Nat):IOper:=js a (.nilrow wdz true b)
def waj:IFun:=⟨[0,1,4],
 (.seq (jr [q5 2])
 (.seq (jr [q0 0,qz 0,jn (.bin false .gtr (.r 1) (jc 1048576)),qd 2,q43_ 3 1,q65_ 3 4,q43_ 3 0,q65_ 3 6,jf 3 (.bin false .sub (jc 1048576) (.r 7)),jf 3 (.bin false .gtr (.r 5) (.r 8)),qk 3 9,q1 2 10])
 .ret)),
 [.v 2]⟩
def wbs:IFun:=⟨[0,2,3,13,53],
 (.seq (jr [qc 1 0])
 (.seq (jr [qc 2 0])
 (.seq (.seq (.region true [] [q0 0,qw 0,qf 1 1,q2 1 2,q0 0,qw 4,qf 0 5,q2 1 6,qz 7,q44_ 3 3 8])
 (.cond (.v 3) (.region true [] [q0 0,qw 0,qf 0 1,q2 1 2,q0 0,qw 4,qf 1 5,q2 1 6,q3 1 3 7,q2 1 8,jn (.conv .i64 (.r 9)),q1 2 10]) .skip))
 (.seq (jr [q0 0,qw 0,qf 1 1,q2 1 2,q7 3 1,qw 0,qf 1 5,q8 1 6 4])
 (.seq (jr [q0 0,q0 0,qw 1,qf 2 2,q2 1 3,jn (.bin false .mul (.r 4) (.c (.int .u64 6364136223846793005))),q0 2,jn (.conv .u64 (.r 6)),qq 5 7,jn (.bin false .add (.r 8) (.c (.int .u64 1442695040888963407))),qw 0,qf 2 10,q8 1 11 9])
 (.seq (.seq (.region true [] [q0 0,qw 0,qf 1 1,q2 1 2,q0 0,qw 4,qf 0 5,q2 1 6,qz 7,js 4 (.bin false .leq (.r 3) (.r 8))])
 (.cond (.v 4) (.seq (jr [q0 2,q1 1 0])
 .ret) .skip))
 (.seq (jr [q0 0,qw 0,qf 2 1,q2 1 2,q50_ 3 40,jn (.bin false .and (.r 4) (.c (.int .u64 255))),jn (.conv .i64 (.r 5)),q1 1 6])
 .ret))))))),
 [.v 1]⟩
def wbu:IFun:=⟨[0,1,4,5,7,11],
 (.seq (jr [qc 2 0])
 (.seq (.seq (jr [q0 1,js 4 (.bin false .leq (.r 0) (jc 1))])
 (.cond (.v 4) (.seq (jr [qc 2 0])
 .ret) .skip))
 (.seq (jr [q0 0,jn (.callm w7z [(.r 0)]),q1 3 1])
 (.seq (.seq (jr [q0 1,q71_ 5 0 200])
 (.cond (.v 5) (jr [q0 3,q66_ 0 256,q0 0,jn (.callm w7z [(.r 2)]),qq 1 3,q1 3 4]) .skip))
 (.seq (jr [q0 3,q0 1,jn (.bin false .rem (.r 0) (.r 1)),q1 2 2])
 .ret))))),
 [.v 2]⟩
def wc0:IFun:=⟨[0,1,4,5,6,18,32],
 (.seq (jr [qs 2 1])
 (.seq (jr [qc 3 0])
 (.seq (.block 0 (.loop [true,true,false,true,false,false,false] (.seq (.seq (jr [q0 3,q0 0,qz 1,jn (.bin false .lss (.r 0) (.r 2)),qd 3,qg 4 0,qg 4 3,qv 4 1 5 6,qj 4 1 7,qg 4 1,jt 4 (.bin false .lss (.r 8) (.r 9)),qt 5 4 10])
 (.cond (.v 5) .skip (.exit 0)))
 (.block 1 (jr [q0 3,q7 0 1,q1 3 1])))))
 (.seq (.seq (jr [q0 3,q0 0,qz 1,jn (.bin false .lss (.r 0) (.r 2)),qd 3,qg 4 0,qg 4 3,qv 4 1 5 6,qj 4 1 7,qg 4 1,jt 4 (.bin false .eql (.r 8) (.r 9)),qt 6 4 10])
 (.cond (.v 6) (.seq (jr [q0 0,q1 2 0])
 .ret) .skip))
 (.seq (jr [jn (.bslice false t_int true 1 []),q0 0,q0 3,jn (.slice 1 (.r 1) none (some (.r 2))),q41_ 1 0 3,q1 4 4])
 (.seq (jr [q0 4,q0 1,qy 1 1,q41_ 1 0 2,q1 4 3])
 (.seq (jr [q0 4,q0 0,q0 3,jn (.slice 1 (.r 1) (some (.r 2)) none),q41_ 1 0 3,q1 2 4])
 .ret))))))),
 [.v 2]⟩
def wbr:IFun:=⟨[0,1,2,3,4,10,27,47,91,115,131],
 (.seq (.seq (jr [q0 4,q67_ 0 0,qd 1,q43_ 2 1,jf 2 (.ncheck (.r 3)),jf 2 (.faddr 0 (.r 4)),qe 2 1 5,jf 2 (.bin false .gtr (.r 6) (jc 9)),qk 2 7,qd 8,q43_ 9 1,jf 9 (.ncheck (.r 10)),jf 9 (.faddr 1 (.r 11)),qe 9 1 12,q65_ 9 13,jf 9 (.bin false .gtr (.r 14) (jc 12)),qp 6 9 15])
 (.cond (.v 6) (.seq (jr [q0 1,q0 1,qw 1,qf 1 2,q2 1 3,q0 2,qy 1 5,q0 3,qy 1 7,jn (.build [(.nil true 1),(.nil true 1),(.nil true 1)] [(0,1,(.r 6)),(1,1,(.r 8))]),q64_ 3 9,q53_ 3 4 10,qw 0,qf 1 12,q8 1 13 11])
 .ret) .skip))
 (.seq (jr [q0 1,qw 0,qf 0 1,q2 1 2,q1 5 3])
 (.seq (jr [q0 0,js 7 (.callm w81 [(.r 0),(jc 5)])])
 (.block 0 (.seq (.seq (jr [q49_ 7 0,q1 8 0])
 (.cond (.v 8) .skip (jr [q49_ 7 1,q1 8 0])))
 (.cond (.v 8) (.seq (jr [q0 1,qw 0,qf 0 1,q2 1 2,q7 3 1,qw 0,qf 0 5,q8 1 6 4])
 (.seq (jr [q0 0,q0 1,q0 2,q0 5,q0 4,q9 4 1,q39_ 0 1 2 3 5])
 (jr [q0 0,q0 1,q0 5,q0 3,q0 4,q9 4 1,q39_ 0 1 2 3 5]))) (.seq (jr [q49_ 7 2,q1 9 0])
 (.cond (.v 9) (.seq (jr [q0 0,q0 1,q0 2,q0 3,q0 4,q9 4 1,q39_ 0 1 2 3 5])
 (jr [q0 0,q0 1,q0 2,q0 3,q0 4,q9 4 1,q39_ 0 1 2 3 5])) (.seq (jr [q49_ 7 3,q1 10 0])
 (.cond (.v 10) (.seq (jr [q0 1,qw 0,qf 0 1,q2 1 2,q7 3 4,qw 0,qf 0 5,q8 1 6 4])
 (.seq (.region true [(18,4),(20,4)] [q0 1,q0 1,qw 1,qf 1 2,q2 1 3,q0 2,jn (.bslice true t_int true 1 [(.r 5)]),q0 5,q0 5,q7 8 1,jn (.bslice true t_int true 1 [(.r 7),(.r 9)]),jn (.build [(.nil true 1),(.nil true 1),(.nil true 1)] [(0,1,(.r 6)),(1,1,(.r 10))]),q0 5,q7 12 2,q0 5,q7 14 3,jn (.bslice true t_int true 1 [(.r 13),(.r 15)]),q0 3,jn (.callm w87 [(.c (.nil true 1)),(.r 17)]),jn (.build [(.nil true 1),(.nil true 1),(.nil true 1)] [(0,1,(.r 16)),(1,1,(.r 18))]),jn (.bslice false we4 false 3 [(.r 11),(.r 19)]),q53_ 3 4 20,qw 0,qf 1 22,q8 1 23 21])
 (.seq (jr [q0 0,q0 1,q0 5,q0 5,q7 3 2,q0 4,q9 5 1,q39_ 0 1 2 4 6])
 (jr [q0 0,q0 1,q0 5,q7 2 1,q0 5,q7 4 3,q0 4,q9 6 1,q39_ 0 1 3 5 7])))) (.seq (jr [q0 1,qw 0,qf 0 1,q2 1 2,q7 3 2,qw 0,qf 0 5,q8 1 6 4])
 (.seq (jr [q0 1,q0 1,qw 1,qf 1 2,q2 1 3,q0 2,qy 1 5,q0 5,qy 1 7,jn (.build [(.nil true 1),(.nil true 1),(.nil true 1)] [(0,1,(.r 6)),(1,1,(.r 8))]),q0 5,q7 10 1,qy 1 11,q0 3,qy 1 13,jn (.build [(.nil true 1),(.nil true 1),(.nil true 1)] [(0,1,(.r 12)),(1,1,(.r 14))]),jn (.bslice false we4 false 3 [(.r 9),(.r 15)]),q53_ 3 4 16,qw 0,qf 1 18,q8 1 19 17])
 (.seq (jr [q0 0,q0 1,q0 5,q0 5,q7 3 1,q0 4,q9 5 1,q39_ 0 1 2 4 6])
 (jr [q0 0,q0 1,q0 5,q7 2 1,q0 5,q0 4,q9 5 1,q39_ 0 1 3 4 6])))))))))))))),
 []⟩
def wbv:IFun:=⟨[0,1,2,3,8,9,10,20],
 (.seq (jr [qs 4 1])
 (.seq (jr [qs 5 1])
 (.seq (.seq (jr [q0 2,q0 0,q0 3,q0 2,q40_ 2 3,q7 4 1,q57_ 1 5,qq 0 6,q1 6 7])
 (.block 0 (.loop [true,true,false,false,false,true,true,false] (.seq (.seq (jr [q0 6,q71_ 7 0 0])
 (.cond (.v 7) .skip (.exit 0)))
 (.seq (.block 1 (jr [q0 5,q0 0,q0 1,q57_ 1 2,jn (.callm w87 [(.r 0),(.r 3)]),q1 5 4]))
 (jr [q0 6,q9 0 1,q1 6 1]))))))
 (.seq (jr [q0 5,q1 4 0])
 .ret)))),
 [.v 4]⟩
def wbt:IFun:=⟨[0,1,4],
 (.seq (jr [q5 2])
 (.seq (jr [q0 0,q0 1,q57_ 0 1,q67_ 2 0,q1 2 3])
 .ret)),
 [.v 2]⟩
def wbp:IFun:=⟨[0,1,4],
 (.seq (jr [qc 2 0])
 (.seq (jr [q0 1,q0 0,q0 1,qz 2,q57_ 1 3,q3 1 0 4,q2 1 5,q1 2 6])
 .ret)),
 [.v 2]⟩
def wbq:IFun:=⟨[0,1,4,5,6,7,23,24,46,67,88,90,103],
 (.seq (jr [qi 2 0 3 0 0])
 (.seq (jr [jn (.build [(.int .i64 0),(.nil false 3)] [(0,1,(jc 2))]),q54_ 3 0 3,q6 2 3 0])
 (.seq (jr [q0 0,q0 0,jn (.callm w81 [(.r 1),(jc 3)]),jn (.bin false .add (jc 1) (.r 2)),jn (.callm w7y [(.r 0),(.v 3),(jc 0),(jc 1),(.r 3)])])
 (.seq (jr [qh 2 3,jn (.build [(.int .i64 0),(.nil false 3),(.int .i64 0),(.int .i64 0)] [(0,2,(.r 0)),(2,1,(jc 0)),(3,1,(jc 1))]),qi 4 0 3 0 0,q6 4 4 1])
 (.seq (jr [q0 0,q4 0 4,qf 1 1,q2 1 2,qz 3,q57_ 0 4,q1 5 5])
 (.seq (.seq (jr [q0 0,js 6 (.callm w81 [(.r 0),(jc 9)])])
 (.block 0 (.seq (jr [q49_ 6 0,q1 7 0])
 (.cond (.v 7) (.region true [(11,2),(11,10),(13,2),(16,2)] [q4 0 4,qf 1 0,q2 1 1,q0 0,q4 0 4,qf 0 4,q2 1 5,q0 0,q4 0 4,qf 0 8,q2 1 9,q57_ 3 6,jn (.bslice true t_int true 1 [(.r 11)]),q57_ 7 10,jn (.bslice true t_int true 1 [(.r 13)]),jn (.build [(.nil true 1),(.nil true 1),(.nil true 1)] [(0,1,(.r 12)),(1,1,(.r 14))]),q64_ 3 15,q53_ 3 2 16,q4 0 4,qf 1 18,q8 1 19 17]) (.seq (jr [q49_ 6 1,q1 8 0])
 (.cond (.v 8) (.region true [(15,2),(15,6),(15,10),(16,2)] [q4 0 4,qf 1 0,q2 1 1,q0 5,q4 0 4,qf 1 4,q2 1 5,q0 5,q3 3 6 7,qf 1 8,q2 1 9,q0 0,q4 0 4,qf 0 12,q2 1 13,q57_ 11 14,jn (.callm w87 [(.r 10),(.r 15)]),q3 3 2 3,qf 1 17,q8 1 18 16]) (.seq (jr [q49_ 6 2,q1 9 0])
 (.cond (.v 9) (.region true [(15,2),(15,6),(15,10),(16,2)] [q4 0 4,qf 1 0,q2 1 1,q0 5,q4 0 4,qf 1 4,q2 1 5,q0 5,q3 3 6 7,qf 0 8,q2 1 9,q0 0,q4 0 4,qf 0 12,q2 1 13,q57_ 11 14,jn (.callm w87 [(.r 10),(.r 15)]),q3 3 2 3,qf 0 17,q8 1 18 16]) (.seq (jr [q49_ 6 3,q1 10 0])
 (.cond (.v 10) (.seq (jr [q62_ 11 1])
 (.cond (.v 11) (.region true [(8,2)] [q4 0 4,qf 1 0,q2 1 1,q0 5,q0 0,q4 0 4,qf 0 5,q2 1 6,jn (.callm w82 [(.r 4),(.r 7),(jc 1),(jc 2)]),q3 3 2 3,qf 2 9,q8 1 10 8]) .skip)) .skip))))))))))
 (.seq (.seq (jr [q0 0,js 12 (.callm w80 [(.r 0),(jc 30)])])
 (.cond (.v 12) (jr [q0 0,jn (.bslice false t_int true 1 [(jc 0),(jc (-1)),(jc 2),(jc 17)]),jn (.callm w7w [(.r 0),(.r 1)]),q4 3 4,q8 1 3 2]) .skip))
 (.seq (jr [qh 4 4,q6 4 2 0])
 .ret)))))))),
 [.cell true 4 2]⟩
def wbl:IFun:=⟨[0,2,3,4],
 (.seq (jr [qi 1 0 3 0 0,qi 2 0 3 0 0])
 (.seq (jr [q0 0,jn (.build [(.nil true 1),(.int .i64 0),(.int .u64 0)] [(0,1,(.r 0))]),jn (.box we9 3 (.r 1)),q1 3 2])
 (.seq (jr [q0 3,jn (.callm w7x [(.r 0),(.c (.bool true))]),q0 3,jn (.callm w7x [(.r 2),(.c (.bool true))]),q6 4 1 1,q6 4 2 3])
 .ret))),
 [.cell true 4 1,.cell true 4 2]⟩
def wah:IFun:=⟨[0,1,2,6],
 (.seq (jr [q5 3])
 (.seq (jr [q0 0,q0 1,jn (.bin false .geq (.r 0) (.r 1)),qd 2,qg 3 0,qg 3 2,jt 3 (.bin false .leq (.r 4) (.r 5)),qx 3 6,q1 3 7])
 .ret)),
 [.v 3]⟩
def wa7:IFun:=⟨[0,2,3,7,19],
 (.seq (jr [q5 1])
 (.seq (.seq (jr [qc 2 1])
 (.block 0 (.loop [true,false,true,false,false] (.seq (.seq (jr [q0 2,q0 0,qz 1,q44_ 3 0 2])
 (.cond (.v 3) .skip (.exit 0)))
 (.seq (.block 1 (.seq (.region true [] [q0 0,q0 2,q9 1 1,q3 1 0 2,q2 1 3,q0 0,q0 2,q3 1 5 6,q2 1 7,js 4 (.bin false .geq (.r 4) (.r 8))])
 (.cond (.v 4) (.seq (jr [q5 1])
 .ret) .skip)))
 (jr [q0 2,q7 0 1,q1 2 1]))))))
 (.seq (jr [qr 1])
 .ret))),
 [.v 1]⟩
def w9w:IFun:=⟨[0,1,2,6,8,9,10,11,12,19],
 (.seq (jr [q5 3])
 (.seq (.seq (jr [q62_ 5 0,qu 6 5,qc 7 0])
 (.block 0 (.loop [false,true,true,false,false,true,true,true,false,false] (.seq (jr [qa 8 7 6])
 (.seq (.cond (.v 8) .skip (.exit 0))
 (.seq (.block 1 (.seq (jr [qo 1 5 7,q2 1 0,q1 4 1])
 (.seq (jr [q0 4,q0 1,q0 2,jn (.call false w6p [(.r 0),(.r 1),(.r 2)]),q72_ 9 3])
 (.cond (.v 9) (.seq (jr [q5 3])
 .ret) .skip))))
 (jr [qb 7 1,q1 7 0])))))))
 (.seq (jr [qr 3])
 .ret))),
 [.v 3]⟩
def w9x:IFun:=⟨[0,1,2,4],
 (.seq (jr [q47_ 2 2 0,q5 3])
 (.seq (jr [q0 1,jn (.call false w6f [(.r 0)]),qd 1,qg 2 1,q59_ 2 0 2,qj 2 1 4,q73_ 2 5 1,jt 2 (.call false w64 [(.r 3),(jc 0),(.r 6)]),qx 2 7,q1 3 8])
 .ret)),
 [.v 3]⟩
def w9o:IFun:=⟨[0,1,2,3],
 (.seq (jr [js 2 (.box we4 3 (.v 0)),q5 3])
 (.seq (jr [q4 0 2,q2 1 0,qz 1,q67_ 2 0,qd 3,q76_ 4 2 1,qn 4 0 2,qe 4 1 6,jf 4 (.call false w65 [(.r 5),(.r 7)]),q56_ 4 8,qk 4 9,qd 10,q76_ 11 2 1,qn 11 1 2,qe 11 1 13,jf 11 (.call false w65 [(.r 12),(.r 14)]),q56_ 11 15,qk 11 16,qd 17,q76_ 18 2 1,qn 18 2 2,qe 18 1 20,jf 18 (.call false w65 [(.r 19),(.r 21)]),q56_ 18 22,qk 18 23,q1 3 24])
 .ret)),
 [.v 3]⟩
def wax:IFun:=⟨[0,1,4,5,7,8,9,16],
 (.seq (jr [qc 2 0])
 (.seq (.seq (jr [q0 0,q60_ 4 0,qc 5 0])
 (.block 0 (.loop [true,true,false,false,true,true,false,false] (.seq (jr [qa 6 5 4])
 (.seq (.cond (.v 6) .skip (.exit 0))
 (.seq (.block 1 (.seq (jr [q0 5,q1 3 0])
 (.seq (jr [q0 1,q0 0,q0 3,q3 3 1 2,q36_ 3 3,js 7 (.callv false (.r 0) [(.r 4)])])
 (.cond (.v 7) (.seq (jr [q0 3,q1 2 0])
 .ret) .skip))))
 (jr [qb 5 1,q1 5 0])))))))
 (.seq (jr [js 2 (.mov (jc (-1)))])
 .ret))),
 [.v 2]⟩
def war:IFun:=⟨[0,1,4],
 (.seq (jr [q5 2])
 (.seq (jr [q0 0,q0 1,jn (.call false w75 [(.r 0),(.r 1)]),jn (.bin false .geq (.r 2) (jc 0)),q1 2 3])
 .ret)),
 [.v 2]⟩
def w9n:IFun:=⟨[0,1,2],
 (.seq (jr [q47_ 1 2 0,q5 2])
 (.seq (jr [q4 0 1,q2 1 0,jn (.call false w6p [(.r 1),(jc 1),(jc 16)]),qd 2,q59_ 3 1 1,qj 3 1 4,jt 3 (.len false (.r 5)),jt 3 (.bin false .leq (.r 6) (jc 24)),qx 3 7,qd 8,q59_ 9 1 1,qj 9 1 10,jt 9 (.mkfn w5w [(.v 1)]),jt 9 (.call false w70 [(.r 11),(.r 12)]),jt 9 (.not (.r 13)),qx 9 14,q1 2 15])
 .ret)),
 [.v 2]⟩
def wb2:IFun:=⟨[0,1,4,5,7,8,9,16],
 (.seq (jr [qc 2 0])
 (.seq (.seq (jr [q0 0,q60_ 4 0,qc 5 0])
 (.block 0 (.loop [true,true,false,false,true,true,false,false] (.seq (jr [qa 6 5 4])
 (.seq (.cond (.v 6) .skip (.exit 0))
 (.seq (.block 1 (.seq (jr [q0 5,q1 3 0])
 (.seq (jr [q0 1,q0 0,q0 3,q3 1 1 2,q2 1 3,js 7 (.bin false .eql (.r 0) (.r 4))])
 (.cond (.v 7) (.seq (jr [q0 3,q1 2 0])
 .ret) .skip))))
 (jr [qb 5 1,q1 5 0])))))))
 (.seq (jr [js 2 (.mov (jc (-1)))])
 .ret))),
 [.v 2]⟩
def wau:IFun:=⟨[0,1,4],
 (.seq (jr [q5 2])
 (.seq (jr [q0 0,q0 1,jn (.call false w79 [(.r 0),(.r 1)]),jn (.bin false .geq (.r 2) (jc 0)),q1 2 3])
 .ret)),
 [.v 2]⟩
def wae:IFun:=⟨[0,1,3],
 (.seq (jr [q5 2])
 (.seq (jr [q45_ 1 1,q0 0,q3 1 0 1,q2 1 2,q1 2 3])
 .ret)),
 [.v 2]⟩
def waz:IFun:=⟨[0,1,4,5,7,8,9,16],
 (.seq (jr [qc 2 0])
 (.seq (.seq (jr [q0 0,q60_ 4 0,qc 5 0])
 (.block 0 (.loop [true,true,false,false,true,true,false,false] (.seq (jr [qa 6 5 4])
 (.seq (.cond (.v 6) .skip (.exit 0))
 (.seq (.block 1 (.seq (jr [q0 5,q1 3 0])
 (.seq (jr [q0 1,q0 0,q0 3,q3 1 1 2,q2 1 3,js 7 (.callv false (.r 0) [(.r 4)])])
 (.cond (.v 7) (.seq (jr [q0 3,q1 2 0])
 .ret) .skip))))
 (jr [qb 5 1,q1 5 0])))))))
 (.seq (jr [js 2 (.mov (jc (-1)))])
 .ret))),
 [.v 2]⟩
def wat:IFun:=⟨[0,1,4],
 (.seq (jr [q5 2])
 (.seq (jr [q0 0,q0 1,jn (.call false w76 [(.r 0),(.r 1)]),jn (.bin false .geq (.r 2) (jc 0)),q1 2 3])
 .ret)),
 [.v 2]⟩
def wad:IFun:=⟨[0,1,2,3,6,7,8,9,10,11,12,13,14,16,27,29,30,31,32,40,52,56,57,58,59],
 (.seq (jr [q47_ 3 2 0,q79_ 4 1,q79_ 5 1])
 (.seq (.region true [(8,4)] [q4 0 3,q2 1 0,q51_ 1 1,q4 1 3,q2 1 3,qz 4,q51_ 1 5,js 6 (.alloc we6 [(.nil true 1)]),q6 1 6 2,q1 7 6])
 (.seq (jr [q45_ 1 6,q0 1,q3 1 0 1,q48_ 1 2])
 (.seq (.seq (jr [qr 8])
 (.block 0 (.loop [false,false,true,true,false,false,true,true,true,false,false,false,false,false,false,false,false,false,false,false,false,false,false,false,false] (.seq (.seq (jr [q62_ 14 8])
 (.cond (.v 14) .skip (.exit 0)))
 (.block 1 (.seq (jr [q5 8])
 (.seq (jr [q4 1 3,q37_ 15 1 0,qu 16 15,qc 17 0])
 (.block 2 (.loop [false,false,true,true,false,false,true,true,true,false,false,false,false,false,false,true,true,true,false,false,false,false,false,false,false] (.seq (jr [qa 18 17 16])
 (.seq (.cond (.v 18) .skip (.exit 2))
 (.seq (.block 3 (.seq (jr [q0 17,qo 3 15 17,q36_ 3 1,ql 10 1 1 1,q1 9 0,q6 3 10 2])
 (.seq (.region true [] [q4 0 10,q2 1 0,q4 1 10,q2 1 2,q1 11 1,q1 12 3])
 (.seq (.seq (jr [q62_ 19 2])
 (.cond (.v 19) (jr [q0 12,q0 11,q1 11 0,q1 12 1]) .skip))
 (.seq (.seq (jr [q0 7,q0 9,q3 1 0 1,q2 1 2,qd 3,q43_ 4 11,jf 4 (.mkfn w6m [(.v 6)]),jf 4 (.call false w71 [(.r 5),(.r 6)]),q56_ 4 7,qp 20 4 8])
 (.cond (.v 20) (.exit 3) .skip))
 (.seq (jr [q0 7,q0 9,q3 1 0 1,q48_ 1 2,qr 8])
 (.seq (jr [q62_ 21 12,qu 22 21,qc 23 0])
 (.block 4 (.loop [false,false,true,true,false,false,true,true,true,false,false,false,false,false,false,true,true,true,false,false,false,true,true,true,false] (.seq (jr [qa 24 23 22])
 (.seq (.cond (.v 24) .skip (.exit 4))
 (.seq (.block 5 (.seq (jr [qo 1 21 23,q2 1 0,q1 13 1])
 (jr [q45_ 1 6,q0 13,q3 1 0 1,q48_ 1 2])))
 (jr [qb 23 1,q1 23 0])))))))))))))
 (jr [qb 17 1,q1 17 0])))))))))))))
 (.seq (jr [q45_ 1 6,q0 7,q1 4 0,q1 5 1])
 .ret))))),
 [.v 4,.v 5]⟩
def w9y:IFun:=⟨[0,1,4,5,6,7,8,9,10,11,21],
 (.seq (jr [qs 2 1])
 (.seq (jr [qs 3 1])
 (.seq (.seq (jr [q62_ 6 0,qu 7 6,qc 8 0])
 (.block 0 (.loop [false,true,false,true,false,false,true,true,true,false,false] (.seq (jr [qa 9 8 7])
 (.seq (.cond (.v 9) .skip (.exit 0))
 (.seq (.block 1 (.seq (jr [q0 8,qo 1 6 8,q2 1 1,q1 4 0,q1 5 2])
 (.seq (jr [q0 5,qd 0,qg 1 1,qg 1 4,qv 1 1 2 3,qj 1 1 4,qt 10 1 5])
 (.cond (.v 10) (jr [q0 3,q0 4,qy 1 1,q41_ 1 0 2,q1 3 3]) .skip))))
 (jr [qb 8 1,q1 8 0])))))))
 (.seq (jr [q0 3,q1 2 0])
 .ret)))),
 [.v 2]⟩
def wac:IFun:=⟨[0,1,2,3,6,7,8,9,10,11],
 (.seq (jr [q47_ 3 2 0,qs 4 1,qs 5 1])
 (.seq (jr [qh 2 3,q0 1,jn (.call false w6l [(.r 0),(.r 1),(.c (.bool false))]),qd 2,qm 3 0,qm 3 1,q1 6 4,q1 7 5])
 (.seq (jr [qh 2 3,q0 2,jn (.call false w6l [(.r 0),(.r 1),(.c (.bool true))]),qd 2,qm 3 0,qm 3 1,q1 8 4,q1 9 5])
 (.seq (jr [q0 6,q0 8,jn (.call false w66 [(.r 0),(.r 1)]),q0 7,q0 9,jn (.call false w66 [(.r 3),(.r 4)]),q1 4 2,q1 5 5])
 .ret)))),
 [.v 4,.v 5]⟩
def w9m:IFun:=⟨[0,1,2,3,5,6,7,37,39,40,41,42,70],
 (.seq (jr [q55_ 1 4 0,q5 2])
 (.seq (jr [q4 0 1,q36_ 2 0,q54_ 3 0 3,q6 2 3 1])
 (.seq (.seq (jr [qh 2 3,jn (.call false w5v [(.r 0)]),q77_ 1,qd 2,qn 3 2 1,qe 3 1 4,qn 3 0 3,qe 3 1 6,q61_ 3 7 1,jf 3 (.call false w6p [(.r 5),(jc 0),(.r 8)]),q56_ 3 9,qk 3 10,qd 11,qn 12 3 1,qe 12 1 13,qn 12 0 3,qe 12 1 15,q61_ 12 16 1,jf 12 (.call false w6p [(.r 14),(jc 0),(.r 17)]),q56_ 12 18,qk 12 19,qd 20,qn 21 2 1,qe 21 1 22,qn 21 3 1,qe 21 1 24,jf 21 (.bin false .eql (.r 23) (.r 25)),qp 7 21 26])
 (.cond (.v 7) (.seq (jr [q5 2])
 .ret) .skip))
 (.seq (.seq (jr [q4 1 3,q37_ 8 1 0,qu 9 8,qc 10 0])
 (.block 0 (.loop [false,true,false,true,false,false,false,false,true,true,true,false,false] (.seq (jr [qa 11 10 9])
 (.seq (.cond (.v 11) .skip (.exit 0))
 (.seq (.block 1 (.seq (jr [qo 3 8 10,q36_ 3 0,ql 4 1 1 1,q6 3 4 1])
 (.seq (jr [q4 1 4,q2 1 0,q4 2 1,q2 1 2,jn (.call false w72 [(.r 1),(.r 3)]),qd 4,qn 5 0 4,qe 5 1 6,qn 5 3 1,qe 5 1 8,jf 5 (.call false w72 [(.r 7),(.r 9)]),qk 5 10,qd 11,qn 12 2 4,qe 12 1 13,qn 12 2 1,qe 12 1 15,jf 12 (.call false w72 [(.r 14),(.r 16)]),qk 12 17,qd 18,qn 19 2 4,qe 19 1 20,qn 19 3 1,qe 19 1 22,jf 19 (.call false w72 [(.r 21),(.r 23)]),qp 12 19 24])
 (.cond (.v 12) (.seq (jr [q5 2])
 .ret) .skip))))
 (jr [qb 10 1,q1 10 0])))))))
 (.seq (jr [qh 2 3,q4 2 1,q2 1 1,q4 3 1,q2 1 3,jn (.call false w6k [(.r 0),(.r 2),(.r 4)]),qd 5,qm 6 0,qm 6 1,q1 5 7,q1 6 8])
 (.seq (jr [q0 5,qz 0,q4 0 3,q2 1 2,q68_ 1 3,qd 4,qg 5 6,jt 5 (.len false (.r 6)),q59_ 5 1 3,qj 5 1 8,jt 5 (.len false (.r 9)),jt 5 (.bin false .eql (.r 7) (.r 10)),qx 5 11,q1 2 12])
 .ret)))))),
 [.v 2]⟩
def w9j:IFun:=⟨[0,1,2,4,5,12],
 (.seq (jr [qc 3 0])
 (.seq (.block 0 (.seq (jr [q0 0,q4 2 1,q2 1 1,q68_ 0 2,q1 4 3])
 (.cond (.v 4) (.seq (jr [q4 3 2,q2 1 0,q1 3 1])
 .ret) (.seq (jr [q0 0,q4 2 1,q2 1 1,jn (.bin false .gtr (.r 0) (.r 2)),q1 5 3])
 (.cond (.v 5) (jr [q0 0,q9 0 1,q1 0 1]) .skip)))))
 (.seq (jr [q4 0 2,qf 0 0,q2 1 1,q0 0,qq 2 3,q1 3 4])
 .ret))),
 [.v 3]⟩
def wao:IFun:=⟨[0,2,4,8],
 (.seq (jr [qc 1 0])
 (.seq (.seq (jr [q0 0,js 2 (.bin false .geq (.r 0) (.c (.int .u32 65536)))])
 (.cond (.v 2) (.seq (jr [q0 0,q50_ 0 16,q1 0 1])
 (jr [qc 1 16])) .skip))
 (.seq (.seq (jr [q0 0,js 3 (.bin false .geq (.r 0) (.c (.int .u32 256)))])
 (.cond (.v 3) (.seq (jr [q0 0,q50_ 0 8,q1 0 1])
 (jr [q0 1,q7 0 8,q1 1 1])) .skip))
 (.seq (jr [q0 1,q0 0,jn (.conv .u8 (.r 1)),⟨none,.stri (.c (.str ⟨#[0,1,2,2,3,3,3,3,4,4,4,4,4,4,4,4,5,5,5,5,5,5,5,5,5,5,5,5,5,5,5,5,6,6,6,6,6,6,6,6,6,6,6,6,6,6,6,6,6,6,6,6,6,6,6,6,6,6,6,6,6,6,6,6,7,7,7,7,7,7,7,7,7,7,7,7,7,7,7,7,7,7,7,7,7,7,7,7,7,7,7,7,7,7,7,7,7,7,7,7,7,7,7,7,7,7,7,7,7,7,7,7,7,7,7,7,7,7,7,7,7,7,7,7,7,7,7,7,8,8,8,8,8,8,8,8,8,8,8,8,8,8,8,8,8,8,8,8,8,8,8,8,8,8,8,8,8,8,8,8,8,8,8,8,8,8,8,8,8,8,8,8,8,8,8,8,8,8,8,8,8,8,8,8,8,8,8,8,8,8,8,8,8,8,8,8,8,8,8,8,8,8,8,8,8,8,8,8,8,8,8,8,8,8,8,8,8,8,8,8,8,8,8,8,8,8,8,8,8,8,8,8,8,8,8,8,8,8,8,8,8,8,8,8,8,8,8,8,8,8,8,8,8,8,8,8]⟩)) (.r 2),none⟩,jn (.conv .i64 (.r 3)),qq 0 4,q1 1 5])
 .ret)))),
 [.v 1]⟩
def wap:IFun:=⟨[0,2,4,8,14],
 (.seq (jr [qc 1 0])
 (.seq (.seq (jr [q0 0,js 2 (.bin false .geq (.r 0) (.c (.int .u64 4294967296)))])
 (.cond (.v 2) (.seq (jr [q0 0,q50_ 0 32,q1 0 1])
 (jr [qc 1 32])) .skip))
 (.seq (.seq (jr [q0 0,js 3 (.bin false .geq (.r 0) (.c (.int .u64 65536)))])
 (.cond (.v 3) (.seq (jr [q0 0,q50_ 0 16,q1 0 1])
 (jr [q0 1,q7 0 16,q1 1 1])) .skip))
 (.seq (.seq (jr [q0 0,js 4 (.bin false .geq (.r 0) (.c (.int .u64 256)))])
 (.cond (.v 4) (.seq (jr [q0 0,q50_ 0 8,q1 0 1])
 (jr [q0 1,q7 0 8,q1 1 1])) .skip))
 (.seq (jr [q0 1,q0 0,jn (.conv .u8 (.r 1)),⟨none,.stri (.c (.str ⟨#[0,1,2,2,3,3,3,3,4,4,4,4,4,4,4,4,5,5,5,5,5,5,5,5,5,5,5,5,5,5,5,5,6,6,6,6,6,6,6,6,6,6,6,6,6,6,6,6,6,6,6,6,6,6,6,6,6,6,6,6,6,6,6,6,7,7,7,7,7,7,7,7,7,7,7,7,7,7,7,7,7,7,7,7,7,7,7,7,7,7,7,7,7,7,7,7,7,7,7,7,7,7,7,7,7,7,7,7,7,7,7,7,7,7,7,7,7,7,7,7,7,7,7,7,7,7,7,7,8,8,8,8,8,8,8,8,8,8,8,8,8,8,8,8,8,8,8,8,8,8,8,8,8,8,8,8,8,8,8,8,8,8,8,8,8,8,8,8,8,8,8,8,8,8,8,8,8,8,8,8,8,8,8,8,8,8,8,8,8,8,8,8,8,8,8,8,8,8,8,8,8,8,8,8,8,8,8,8,8,8,8,8,8,8,8,8,8,8,8,8,8,8,8,8,8,8,8,8,8,8,8,8,8,8,8,8,8,8,8,8,8,8,8,8,8,8,8,8,8,8,8,8,8,8,8,8]⟩)) (.r 2),none⟩,jn (.conv .i64 (.r 3)),qq 0 4,q1 1 5])
 .ret))))),
 [.v 1]⟩
def wan:IFun:=⟨[0,2],
 (.seq (jr [qc 1 0])
 (.seq (.cond (.c (.bool false)) (.seq (jr [q0 0,jn (.conv .u32 (.r 0)),jn (.call false w6w [(.r 1)]),q1 1 2])
 .ret) .skip)
 (.seq (jr [q0 0,jn (.call false w6x [(.r 0)]),q1 1 1])
 .ret))),
 [.v 1]⟩
def w9h:IFun:=⟨[0,2],
 (.seq (jr [q5 1])
 (.seq (jr [q0 0,q0 0,jn (.bin false .neq (.r 0) (.r 1)),q1 1 2])
 .ret)),
 [.v 1]⟩
def w9g:IFun:=⟨[0,1,4],
 (.seq (jr [q5 2])
 (.seq (jr [q0 0,jn (.call false w5p [(.r 0)]),qd 1,qg 2 1,jt 2 (.call false w5p [(.r 3)]),jt 2 (.not (.r 4)),qx 2 5,qd 6,q43_ 7 0,q43_ 7 1,jf 7 (.bin false .lss (.r 8) (.r 9)),qk 7 10,q1 2 11])
 .ret)),
 [.v 2]⟩
def wb8:IFun:=⟨[0,1,2,6,7,12,30],
 (.seq (jr [q0 1,q7 0 1,q1 3 1])
 (.block 0 (.loop [true,true,true,true,false,false,false] (.seq (.seq (jr [q0 3,q0 2,q44_ 5 0 1])
 (.cond (.v 5) .skip (.exit 0)))
 (.seq (.block 1 (.seq (jr [q0 3,q1 4 0])
 (.block 2 (.loop [true,true,true,true,true,false,false] (.seq (.seq (.region true [] [q0 4,q0 1,jn (.bin false .gtr (.r 0) (.r 1)),qd 2,qg 3 0,qg 3 4,qv 3 1 4 5,qj 3 1 6,qg 3 0,qg 3 4,q73_ 3 9 1,qv 3 1 8 10,qj 3 1 11,q42_ 3 7 12,qt 6 3 13])
 (.cond (.v 6) .skip (.exit 2)))
 (.seq (.block 3 (.region true [] [q0 0,q0 4,q0 0,q0 4,q9 3 1,q0 0,q0 4,q9 6 1,q3 1 5 7,q2 1 8,q0 0,q0 4,q3 1 10 11,q2 1 12,q3 1 0 1,q8 1 14 9,q3 1 2 4,q8 1 16 13]))
 (jr [q0 4,q9 0 1,q1 4 1])))))))
 (jr [q0 3,q7 0 1,q1 3 1])))))),
 []⟩
def wbi:IFun:=⟨[0,1,2,3,8,9,16,36,52],
 (.seq (jr [q0 1,q1 4 0])
 (.block 0 (.loop [true,false,true,true,true,false,false,false,false] (.block 1 (.seq (jr [q0 4,jn (.bin false .mul (jc 2) (.r 0)),q7 1 1,q1 5 2])
 (.seq (.seq (jr [q0 5,q0 2,js 6 (.bin false .geq (.r 0) (.r 1))])
 (.cond (.v 6) (.exit 0) .skip))
 (.seq (.seq (.region true [] [q0 5,q7 0 1,q0 2,jn (.bin false .lss (.r 1) (.r 2)),qd 3,qg 4 0,qg 4 3,qg 4 5,jt 4 (.bin false .add (.r 6) (.r 7)),qv 4 1 5 8,qj 4 1 9,qg 4 0,qg 4 3,qg 4 5,jt 4 (.bin false .add (.r 12) (.r 13)),jt 4 (.bin false .add (.r 14) (jc 1)),qv 4 1 11 15,qj 4 1 16,q42_ 4 10 17,qt 7 4 18])
 (.cond (.v 7) (jr [q0 5,q7 0 1,q1 5 1]) .skip))
 (.seq (.seq (.region true [] [q0 0,q0 3,q0 4,qq 1 2,q3 1 0 3,q2 1 4,q0 0,q0 3,q0 5,qq 7 8,q3 1 6 9,q2 1 10,jn (.call false w5o [(.r 5),(.r 11)]),q72_ 8 12])
 (.cond (.v 8) .ret .skip))
 (.seq (.region true [] [q0 0,q0 3,q0 4,qq 1 2,q0 0,q0 3,q0 5,qq 5 6,q0 0,q0 3,q0 5,qq 9 10,q3 1 8 11,q2 1 12,q0 0,q0 3,q0 4,qq 15 16,q3 1 14 17,q2 1 18,q3 1 0 3,q8 1 20 13,q3 1 4 7,q8 1 22 19])
 (jr [q0 5,q1 4 0])))))))))),
 []⟩
def wb7:IFun:=⟨[0,1,2,6,7,8,9,10,19,30],
 (.seq (jr [q0 1,q1 3 0])
 (.seq (jr [qc 4 0])
 (.seq (jr [q0 2,q0 1,q40_ 0 1,q1 5 2])
 (.seq (.seq (jr [q0 5,q9 0 1,q63_ 1 2,q1 6 2])
 (.block 0 (.loop [true,false,false,true,true,true,true,false,false,false] (.seq (.seq (jr [q0 6,q46_ 8 0 0])
 (.cond (.v 8) .skip (.exit 0)))
 (.seq (.block 1 (jr [q0 0,q0 6,q0 5,q0 3,jn (.callm w7p [(.r 0),(.r 1),(.r 2),(.r 3)])]))
 (jr [q0 6,q9 0 1,q1 6 1]))))))
 (.seq (jr [q0 5,q9 0 1,q1 7 1])
 (.block 2 (.loop [true,false,false,true,true,false,false,true,false,false] (.seq (.seq (jr [q0 7,q46_ 9 0 0])
 (.cond (.v 9) .skip (.exit 2)))
 (.seq (.block 3 (.seq (.region true [] [q0 0,q0 3,q0 0,q0 3,q0 7,qq 3 4,q0 0,q0 3,q0 7,qq 7 8,q3 1 6 9,q2 1 10,q0 0,q0 3,q3 1 12 13,q2 1 14,q3 1 0 1,q8 1 16 11,q3 1 2 5,q8 1 18 15])
 (jr [q0 0,q0 4,q0 7,q0 3,jn (.callm w7p [(.r 0),(.r 1),(.r 2),(.r 3)])])))
 (jr [q0 7,q9 0 1,q1 7 1])))))))))),
 []⟩
def wbb:IFun:=⟨[0,2],
 (.seq (jr [js 1 (.mov (.c (.int .u64 0)))])
 (.seq (jr [q0 0,jn (.conv .u64 (.r 0)),jn (.call false w6v [(.r 1)]),jn (.bin false .shl (.c (.int .u64 1)) (.r 2)),q1 1 3])
 .ret)),
 [.v 1]⟩
def wbj:IFun:=⟨[0,2],
 (.seq (jr [js 1 (.mov (.c (.int .u64 0)))])
 (.seq (.region true [] [q0 0,qw 0,q2 1 1,q0 0,qw 3,q2 1 4,jn (.bin false .shl (.r 5) (.c (.int .u64 13))),jn (.bin false .xor (.r 2) (.r 6)),qw 0,q8 1 8 7])
 (.seq (.region true [] [q0 0,qw 0,q2 1 1,q0 0,qw 3,q2 1 4,q50_ 5 7,jn (.bin false .xor (.r 2) (.r 6)),qw 0,q8 1 8 7])
 (.seq (.region true [] [q0 0,qw 0,q2 1 1,q0 0,qw 3,q2 1 4,jn (.bin false .shl (.r 5) (.c (.int .u64 17))),jn (.bin false .xor (.r 2) (.r 6)),qw 0,q8 1 8 7])
 (.seq (jr [q0 0,qw 0,q2 1 1,q1 1 2])
 .ret))))),
 [.v 1]⟩
def wb5:IFun:=⟨[0,1,2,6,7,8,9,10,15,33,43],
 (.seq (jr [q0 2,q0 1,q40_ 0 1,q1 3 2])
 (.seq (jr [q0 3,q46_ 8 0 8])
 (.cond (.v 8) (.seq (jr [q0 3,jn (.conv .u64 (.r 0)),js 4 (.alloc we8 [(.int .u64 0)]),q6 1 4 1])
 (.seq (jr [q0 3,jn (.call false w7i [(.r 0)]),q1 5 1])
 (.seq (jr [q0 1,q0 3,q63_ 1 4,q66_ 2 2,qq 0 3,q9 4 1,q1 6 5])
 (.block 0 (.loop [true,true,false,true,true,true,true,false,false,false,false] (.seq (.seq (jr [q0 6,q0 1,q0 3,q63_ 2 4,q66_ 3 2,qq 1 4,q7 5 1,js 9 (.bin false .leq (.r 0) (.r 6))])
 (.cond (.v 9) .skip (.exit 0)))
 (.seq (.block 1 (.seq (jr [jn (.callm w7q [(.v 4)]),q0 5,jn (.bin false .sub (.r 1) (.c (.int .u64 1))),jn (.bin false .and (.r 0) (.r 2)),jn (.conv .i64 (.r 3)),q1 7 4])
 (.seq (.seq (jr [q0 7,q0 3,js 10 (.bin false .geq (.r 0) (.r 1))])
 (.cond (.v 10) (jr [q0 7,q0 3,q40_ 0 1,q1 7 2]) .skip))
 (.region true [] [q0 0,q0 6,q0 0,q0 1,q0 7,qq 3 4,q0 0,q0 1,q0 7,qq 7 8,q3 1 6 9,q2 1 10,q0 0,q0 6,q3 1 12 13,q2 1 14,q3 1 0 1,q8 1 16 11,q3 1 2 5,q8 1 18 15]))))
 (jr [q0 6,q7 0 1,q1 6 1])))))))) .skip))),
 []⟩
def wbc:IFun:=⟨[0,1,2,3,8,9,18],
 (.seq (jr [qc 4 0,qc 5 0])
 (.seq (.seq (.region true [] [q0 0,q0 2,q3 1 0 1,q2 1 2,q0 0,q0 1,q3 1 4 5,q2 1 6,js 6 (.call false w5o [(.r 3),(.r 7)])])
 (.cond (.v 6) (.seq (jr [q0 3,qw 0,q2 1 1,q7 2 1,qw 0,q8 1 4 3])
 (.seq (jr [q0 2,q0 1,q1 4 0,q1 5 1])
 .ret)) .skip))
 (.seq (jr [q0 1,q0 2,q1 4 0,q1 5 1])
 .ret))),
 [.v 4,.v 5]⟩
def wba:IFun:=⟨[0,1,2,3,4,10],
 (.seq (jr [qc 5 0])
 (.seq (jr [q0 0,q0 1,q0 2,q0 4,jn (.callm w7j [(.r 0),(.r 1),(.r 2),(.r 3)]),qd 4,qm 5 0,qm 5 1,q1 1 6,q1 2 7])
 (.seq (jr [q0 0,q0 2,q0 3,q0 4,jn (.callm w7j [(.r 0),(.r 1),(.r 2),(.r 3)]),qd 4,qm 5 0,qm 5 1,q1 2 6,q1 3 7])
 (.seq (jr [q0 0,q0 1,q0 2,q0 4,jn (.callm w7j [(.r 0),(.r 1),(.r 2),(.r 3)]),qd 4,qm 5 0,qm 5 1,q1 1 6,q1 2 7])
 (.seq (jr [q0 2,q1 5 0])
 .ret))))),
 [.v 5]⟩
def wb9:IFun:=⟨[0,1,2,6],
 (.seq (jr [qc 3 0])
 (.seq (jr [q0 0,q0 1,q9 1 1,q0 1,q0 1,q7 4 1,q0 2,jn (.callm w7h [(.r 0),(.r 2),(.r 3),(.r 5),(.r 6)]),q1 3 7])
 .ret)),
 [.v 3]⟩
def wb6:IFun:=⟨[0,1,2,6,7,8,9,10,11,12,32,34,49,51,54],
 (.seq (jr [qc 3 0,qc 4 0])
 (.seq (jr [q0 2,q0 1,q40_ 0 1,q1 5 2])
 (.seq (jr [js 6 (.alloc t_int [(.int .i64 0)])])
 (.seq (jr [q0 1,q0 5,q63_ 1 4,q66_ 2 1,qq 0 3,q1 7 4])
 (.seq (jr [q0 1,q0 5,q63_ 1 4,q66_ 2 2,qq 0 3,q1 8 4])
 (.seq (jr [q0 1,q0 5,q63_ 1 4,q66_ 2 3,qq 0 3,q1 9 4])
 (.seq (.seq (jr [q0 5,q46_ 10 0 8])
 (.cond (.v 10) (.seq (.seq (jr [q0 5,q46_ 11 0 50])
 (.cond (.v 11) (.seq (jr [q0 0,q0 7,jn (.callm w7g [(.r 0),(.r 1),(.v 6)]),q1 7 2])
 (.seq (jr [q0 0,q0 8,jn (.callm w7g [(.r 0),(.r 1),(.v 6)]),q1 8 2])
 (jr [q0 0,q0 9,jn (.callm w7g [(.r 0),(.r 1),(.v 6)]),q1 9 2]))) .skip))
 (jr [q0 0,q0 7,q0 8,q0 9,jn (.callm w7h [(.r 0),(.r 1),(.r 2),(.r 3),(.v 6)]),q1 8 4])) .skip))
 (.seq (jr [js 12 (.load false 1 (.v 6))])
 (.block 0 (.seq (jr [q49_ 12 0,q1 13 0])
 (.cond (.v 13) (.seq (jr [q0 8,q1 3 0,qc 4 1])
 .ret) (.seq (jr [q49_ 12 12,q1 14 0])
 (.cond (.v 14) (.seq (jr [q0 8,q1 3 0,qc 4 2])
 .ret) (.seq (jr [q0 8,q1 3 0,qc 4 0])
 .ret)))))))))))))),
 [.v 3,.v 4]⟩
def wbh:IFun:=⟨[0,1,2,6,7,13],
 (.seq (jr [q0 1,q1 3 0])
 (.seq (jr [q0 2,q9 0 1,q1 4 1])
 (.block 0 (.loop [true,false,false,true,true,false] (.seq (.seq (jr [q0 3,q0 4,q44_ 5 0 1])
 (.cond (.v 5) .skip (.exit 0)))
 (.block 1 (.seq (.region true [] [q0 0,q0 3,q0 0,q0 4,q0 0,q0 4,q3 1 4 5,q2 1 6,q0 0,q0 3,q3 1 8 9,q2 1 10,q3 1 0 1,q8 1 12 7,q3 1 2 3,q8 1 14 11])
 (.seq (jr [q0 3,q7 0 1,q1 3 1])
 (jr [q0 4,q9 0 1,q1 4 1]))))))))),
 []⟩
def wbd:IFun:=⟨[0,1,2,6,7,8,9,10,14,32,37,41,61,65,78,98,103,116],
 (.seq (jr [q5 3])
 (.seq (jr [q0 1,q7 0 1,q1 4 1])
 (.seq (.seq (jr [qc 5 0])
 (.block 0 (.loop [true,true,true,false,true,true,false,false,false,false,false,false,false,false,false,false,false,false] (.seq (.seq (jr [q0 5,q74_ 8 0 5])
 (.cond (.v 8) .skip (.exit 0)))
 (.seq (.block 1 (.seq (.block 2 (.loop [true,true,true,false,true,true,false,false,false,false,false,false,false,false,false,false,false,false] (.seq (.seq (.region true [] [q0 4,q0 2,jn (.bin false .lss (.r 0) (.r 1)),qd 2,qg 3 0,qg 3 4,qv 3 1 4 5,qj 3 1 6,qg 3 0,qg 3 4,q73_ 3 9 1,qv 3 1 8 10,qj 3 1 11,q42_ 3 7 12,jt 3 (.not (.r 13)),qt 9 3 14])
 (.cond (.v 9) .skip (.exit 2)))
 (.block 3 (jr [q0 4,q7 0 1,q1 4 1])))))
 (.seq (.seq (jr [q0 4,q0 2,js 10 (.bin false .eql (.r 0) (.r 1))])
 (.cond (.v 10) (.seq (jr [qr 3])
 .ret) .skip))
 (.seq (.seq (jr [q0 2,q0 1,q40_ 0 1,q74_ 11 2 50])
 (.cond (.v 11) (.seq (jr [q5 3])
 .ret) .skip))
 (.seq (.region true [] [q0 0,q0 4,q0 0,q0 4,q9 3 1,q0 0,q0 4,q9 6 1,q3 1 5 7,q2 1 8,q0 0,q0 4,q3 1 10 11,q2 1 12,q3 1 0 1,q8 1 14 9,q3 1 2 4,q8 1 16 13])
 (.seq (.seq (jr [q0 4,q0 1,q40_ 0 1,q46_ 12 2 2])
 (.cond (.v 12) (.seq (jr [q0 4,q9 0 1,q1 6 1])
 (.block 4 (.loop [true,true,true,false,true,true,true,false,false,false,false,false,false,false,false,false,false,false] (.seq (.seq (jr [q0 6,q46_ 13 0 1])
 (.cond (.v 13) .skip (.exit 4)))
 (.seq (.block 5 (.seq (.seq (.region true [] [q0 0,q0 6,q3 1 0 1,q2 1 2,q0 0,q0 6,q9 5 1,q3 1 4 6,q2 1 7,jn (.call false w5o [(.r 3),(.r 8)]),q72_ 14 9])
 (.cond (.v 14) (.exit 4) .skip))
 (.region true [] [q0 0,q0 6,q0 0,q0 6,q9 3 1,q0 0,q0 6,q9 6 1,q3 1 5 7,q2 1 8,q0 0,q0 6,q3 1 10 11,q2 1 12,q3 1 0 1,q8 1 14 9,q3 1 2 4,q8 1 16 13])))
 (jr [q0 6,q9 0 1,q1 6 1])))))) .skip))
 (.seq (jr [q0 2,q0 4,q40_ 0 1,q46_ 15 2 2])
 (.cond (.v 15) (.seq (jr [q0 4,q7 0 1,q1 7 1])
 (.block 6 (.loop [true,true,true,false,true,true,false,true,false,false,false,false,false,false,false,false,false,false] (.seq (.seq (jr [q0 7,q0 2,q44_ 16 0 1])
 (.cond (.v 16) .skip (.exit 6)))
 (.seq (.block 7 (.seq (.seq (.region true [] [q0 0,q0 7,q3 1 0 1,q2 1 2,q0 0,q0 7,q9 5 1,q3 1 4 6,q2 1 7,jn (.call false w5o [(.r 3),(.r 8)]),q72_ 17 9])
 (.cond (.v 17) (.exit 6) .skip))
 (.region true [] [q0 0,q0 7,q0 0,q0 7,q9 3 1,q0 0,q0 7,q9 6 1,q3 1 5 7,q2 1 8,q0 0,q0 7,q3 1 10 11,q2 1 12,q3 1 0 1,q8 1 14 9,q3 1 2 4,q8 1 16 13])))
 (jr [q0 7,q7 0 1,q1 7 1])))))) .skip))))))))
 (jr [q0 5,q7 0 1,q1 5 1]))))))
 (.seq (jr [q5 3])
 .ret)))),
 [.v 3]⟩
def wbe:IFun:=⟨[0,1,2,3,8,9,10,43,59,64],
 (.seq (jr [qc 4 0])
 (.seq (.region true [] [q0 0,q0 1,q0 0,q0 3,q0 0,q0 3,q3 1 4 5,q2 1 6,q0 0,q0 1,q3 1 8 9,q2 1 10,q3 1 0 1,q8 1 12 7,q3 1 2 3,q8 1 14 11])
 (.seq (jr [q0 1,q7 0 1,q0 2,q9 2 1,q1 5 1,q1 6 3])
 (.seq (.block 0 (.loop [true,true,false,false,false,true,true,false,false,false] (.block 1 (.seq (.block 2 (.loop [true,true,false,false,false,true,true,false,false,false] (.seq (.seq (.region true [] [q0 5,q0 6,q69_ 0 1,qd 2,qg 3 0,qg 3 1,qv 3 1 4 5,qj 3 1 6,qg 3 0,qg 3 5,qv 3 1 8 9,qj 3 1 10,q42_ 3 7 11,jt 3 (.not (.r 12)),qt 7 3 13])
 (.cond (.v 7) .skip (.exit 2)))
 (.block 3 (jr [q0 5,q7 0 1,q1 5 1])))))
 (.seq (.block 4 (.loop [true,true,false,false,false,true,true,false,false,false] (.seq (.seq (.region true [] [q0 5,q0 6,q69_ 0 1,qd 2,qg 3 0,qg 3 1,qv 3 1 4 5,qj 3 1 6,qg 3 0,qg 3 6,qv 3 1 8 9,qj 3 1 10,q42_ 3 7 11,qt 8 3 12])
 (.cond (.v 8) .skip (.exit 4)))
 (.block 5 (jr [q0 6,q9 0 1,q1 6 1])))))
 (.seq (.seq (jr [q0 5,q0 6,js 9 (.bin false .gtr (.r 0) (.r 1))])
 (.cond (.v 9) (.exit 0) .skip))
 (.seq (.region true [] [q0 0,q0 5,q0 0,q0 6,q0 0,q0 6,q3 1 4 5,q2 1 6,q0 0,q0 5,q3 1 8 9,q2 1 10,q3 1 0 1,q8 1 12 7,q3 1 2 3,q8 1 14 11])
 (.seq (jr [q0 5,q7 0 1,q1 5 1])
 (jr [q0 6,q9 0 1,q1 6 1])))))))))
 (.seq (jr [q0 5,q1 4 0])
 .ret))))),
 [.v 4]⟩
def wbf:IFun:=⟨[0,1,2,3,8,9,10,11,43,60,65,112,129,134],
 (.seq (jr [qc 4 0,q5 5])
 (.seq (.region true [] [q0 0,q0 1,q0 0,q0 3,q0 0,q0 3,q3 1 4 5,q2 1 6,q0 0,q0 1,q3 1 8 9,q2 1 10,q3 1 0 1,q8 1 12 7,q3 1 2 3,q8 1 14 11])
 (.seq (jr [q0 1,q7 0 1,q0 2,q9 2 1,q1 6 1,q1 7 3])
 (.seq (.block 0 (.loop [true,true,false,false,false,false,true,true,false,false,false,false,false,false] (.seq (.seq (.region true [] [q0 6,q0 7,q69_ 0 1,qd 2,qg 3 0,qg 3 6,qv 3 1 4 5,qj 3 1 6,qg 3 0,qg 3 1,qv 3 1 8 9,qj 3 1 10,q42_ 3 7 11,qt 8 3 12])
 (.cond (.v 8) .skip (.exit 0)))
 (.block 1 (jr [q0 6,q7 0 1,q1 6 1])))))
 (.seq (.block 2 (.loop [true,true,false,false,false,false,true,true,false,false,false,false,false,false] (.seq (.seq (.region true [] [q0 6,q0 7,q69_ 0 1,qd 2,qg 3 0,qg 3 7,qv 3 1 4 5,qj 3 1 6,qg 3 0,qg 3 1,qv 3 1 8 9,qj 3 1 10,q42_ 3 7 11,jt 3 (.not (.r 12)),qt 9 3 13])
 (.cond (.v 9) .skip (.exit 2)))
 (.block 3 (jr [q0 7,q9 0 1,q1 7 1])))))
 (.seq (.seq (jr [q0 6,q0 7,js 10 (.bin false .gtr (.r 0) (.r 1))])
 (.cond (.v 10) (.seq (.region true [] [q0 0,q0 7,q0 0,q0 1,q0 0,q0 1,q3 1 4 5,q2 1 6,q0 0,q0 7,q3 1 8 9,q2 1 10,q3 1 0 1,q8 1 12 7,q3 1 2 3,q8 1 14 11])
 (.seq (jr [q0 7,q1 4 0,qr 5])
 .ret)) .skip))
 (.seq (.region true [] [q0 0,q0 6,q0 0,q0 7,q0 0,q0 7,q3 1 4 5,q2 1 6,q0 0,q0 6,q3 1 8 9,q2 1 10,q3 1 0 1,q8 1 12 7,q3 1 2 3,q8 1 14 11])
 (.seq (jr [q0 6,q7 0 1,q1 6 1])
 (.seq (jr [q0 7,q9 0 1,q1 7 1])
 (.seq (.block 4 (.loop [true,true,false,false,false,false,true,true,false,false,false,false,false,false] (.block 5 (.seq (.block 6 (.loop [true,true,false,false,false,false,true,true,false,false,false,false,false,false] (.seq (.seq (.region true [] [q0 6,q0 7,q69_ 0 1,qd 2,qg 3 0,qg 3 6,qv 3 1 4 5,qj 3 1 6,qg 3 0,qg 3 1,qv 3 1 8 9,qj 3 1 10,q42_ 3 7 11,qt 11 3 12])
 (.cond (.v 11) .skip (.exit 6)))
 (.block 7 (jr [q0 6,q7 0 1,q1 6 1])))))
 (.seq (.block 8 (.loop [true,true,false,false,false,false,true,true,false,false,false,false,false,false] (.seq (.seq (.region true [] [q0 6,q0 7,q69_ 0 1,qd 2,qg 3 0,qg 3 7,qv 3 1 4 5,qj 3 1 6,qg 3 0,qg 3 1,qv 3 1 8 9,qj 3 1 10,q42_ 3 7 11,jt 3 (.not (.r 12)),qt 12 3 13])
 (.cond (.v 12) .skip (.exit 8)))
 (.block 9 (jr [q0 7,q9 0 1,q1 7 1])))))
 (.seq (.seq (jr [q0 6,q0 7,js 13 (.bin false .gtr (.r 0) (.r 1))])
 (.cond (.v 13) (.exit 4) .skip))
 (.seq (.region true [] [q0 0,q0 6,q0 0,q0 7,q0 0,q0 7,q3 1 4 5,q2 1 6,q0 0,q0 6,q3 1 8 9,q2 1 10,q3 1 0 1,q8 1 12 7,q3 1 2 3,q8 1 14 11])
 (.seq (jr [q0 6,q7 0 1,q1 6 1])
 (jr [q0 7,q9 0 1,q1 7 1])))))))))
 (.seq (.region true [] [q0 0,q0 7,q0 0,q0 1,q0 0,q0 1,q3 1 4 5,q2 1 6,q0 0,q0 7,q3 1 8 9,q2 1 10,q3 1 0 1,q8 1 12 7,q3 1 2 3,q8 1 14 11])
 (.seq (jr [q0 7,q1 4 0,q5 5])
 .ret)))))))))))),
 [.v 4,.v 5]⟩
def wbg:IFun:=⟨[0,1,2,3,8,9,10,11,12,13,14,15,16,17,18,23,29,35,50,68,72,87,113],
 (.seq (jr [qr 4])
 (.seq (jr [qr 5])
 (.block 0 (.loop [true,true,true,true,true,true,false,false,false,false,false,false,false,false,false,false,false,false,false,false,false,false,false] (.block 1 (.seq (jr [q0 2,q0 1,q40_ 0 1,q1 6 2])
 (.seq (.seq (jr [q0 6,js 15 (.bin false .leq (.r 0) (jc 12))])
 (.cond (.v 15) (.seq (jr [q0 0,q0 1,q0 2,jn (.callm w7f [(.r 0),(.r 1),(.r 2)])])
 .ret) .skip))
 (.seq (.seq (jr [q0 3,js 16 (.bin false .eql (.r 0) (jc 0))])
 (.cond (.v 16) (.seq (jr [q0 0,q0 1,q0 2,jn (.callm w7e [(.r 0),(.r 1),(.r 2)])])
 .ret) .skip))
 (.seq (.seq (jr [q0 4,q72_ 17 0])
 (.cond (.v 17) (.seq (jr [q0 0,q0 1,q0 2,jn (.callm w7c [(.r 0),(.r 1),(.r 2)])])
 (jr [q0 3,q9 0 1,q1 3 1])) .skip))
 (.seq (jr [q0 0,q0 1,q0 2,jn (.callm w7d [(.r 0),(.r 1),(.r 2)]),qd 3,qm 4 0,qm 4 1,q1 7 5,q1 8 6])
 (.seq (.seq (jr [q0 8,js 18 (.bin false .eql (.r 0) (jc 2))])
 (.cond (.v 18) (.seq (jr [q0 0,q0 1,q0 2,jn (.callm w7o [(.r 0),(.r 1),(.r 2)])])
 (.seq (jr [q0 2,q9 0 1,q0 7,q0 1,q40_ 2 3,q40_ 1 4,q1 7 5])
 (jr [qc 8 1]))) .skip))
 (.seq (.seq (jr [q0 4,qd 0,qg 1 5,qx 1 2,qd 3,qg 4 8,jt 4 (.bin false .eql (.r 5) (jc 1)),qt 19 4 6])
 (.cond (.v 19) (.seq (jr [q0 0,q0 1,q0 2,js 20 (.callm w7k [(.r 0),(.r 1),(.r 2)])])
 (.cond (.v 20) .ret .skip)) .skip))
 (.seq (.seq (.region true [] [q0 1,jn (.bin false .gtr (.r 0) (jc 0)),qd 1,qg 2 0,qg 2 1,q73_ 2 4 1,qv 2 1 3 5,qj 2 1 6,qg 2 0,qg 2 7,qv 2 1 8 9,qj 2 1 10,q42_ 2 7 11,jt 2 (.not (.r 12)),qt 21 2 13])
 (.cond (.v 21) (.seq (jr [q0 0,q0 1,q0 2,q0 7,jn (.callm w7l [(.r 0),(.r 1),(.r 2),(.r 3)]),q1 9 4])
 (.seq (jr [q0 9,q1 1 0])
 (.exit 1))) .skip))
 (.seq (jr [q0 0,q0 1,q0 2,q0 7,jn (.callm w7m [(.r 0),(.r 1),(.r 2),(.r 3)]),qd 4,qm 5 0,qm 5 1,q1 10 6,q1 11 7])
 (.seq (jr [q0 11,q1 5 0])
 (.seq (jr [q0 10,q0 1,q40_ 0 1,q0 2,q0 10,q40_ 3 4,q1 12 2,q1 13 5])
 (.seq (jr [q0 6,q63_ 0 8,q1 14 1])
 (.seq (jr [q0 12,q0 13,q44_ 22 0 1])
 (.cond (.v 22) (.seq (jr [q0 12,q0 14,jn (.bin false .geq (.r 0) (.r 1)),q1 4 2])
 (.seq (jr [q0 0,q0 1,q0 10,q0 3,jn (.callm w7n [(.r 0),(.r 1),(.r 2),(.r 3)])])
 (jr [q0 10,q7 0 1,q1 1 1]))) (.seq (jr [q0 13,q0 14,jn (.bin false .geq (.r 0) (.r 1)),q1 4 2])
 (.seq (jr [q0 0,q0 10,q7 1 1,q0 2,q0 3,jn (.callm w7n [(.r 0),(.r 2),(.r 3),(.r 4)])])
 (jr [q0 10,q1 2 0])))))))))))))))))))))),
 []⟩
def wb4:IFun:=⟨[0,2],
 (.seq (jr [q0 0,qz 0,q1 1 1])
 (jr [q0 0,q0 1,q0 1,jn (.conv .u64 (.r 2)),jn (.call false w6v [(.r 3)]),jn (.callm w7n [(.r 0),(jc 0),(.r 1),(.r 4)])])),
 []⟩
def w9k:IFun:=⟨[0,1,3,4,6,7,8,9,10],
 (.seq (jr [qs 2 1])
 (.seq (jr [qs 3 1])
 (.seq (.seq (jr [q62_ 5 0,qu 6 5,qc 7 0])
 (.block 0 (.loop [false,true,false,true,false,true,true,true,false] (.seq (jr [qa 8 7 6])
 (.seq (.cond (.v 8) .skip (.exit 0))
 (.seq (.block 1 (.seq (jr [qo 1 5 7,q2 1 0,q1 4 1])
 (jr [q0 3,q45_ 1 1,q0 4,jn (.callv false (.r 1) [(.r 2)]),qy 1 3,q41_ 1 0 4,q1 3 5])))
 (jr [qb 7 1,q1 7 0])))))))
 (.seq (jr [q0 3,jn (.callm w7b [(.r 0)])])
 (.seq (jr [q0 3,q1 2 0])
 .ret))))),
 [.v 2]⟩
def wa1:IFun:=⟨[0,1,2,3,5,10,11,12,13],
 (.seq (jr [q47_ 1 2 0,q54_ 2 0 3])
 (.seq (jr [q4 0 1,q2 1 0,jn (.build [(.int .i64 0),(.nil false 3)] [(0,1,(.r 1))]),q54_ 3 0 3,q6 2 3 2])
 (.seq (.seq (jr [q4 1 1,q37_ 5 1 0,qu 6 5,qc 7 0])
 (.block 0 (.loop [false,false,true,true,false,true,true,true,false] (.seq (jr [qa 8 7 6])
 (.seq (.cond (.v 8) .skip (.exit 0))
 (.seq (.block 1 (.seq (jr [qo 3 5 7,q36_ 3 0,ql 4 1 1 1,q6 3 4 1])
 (.region true [(8,1),(8,5),(8,7),(9,1),(9,7),(10,1),(12,1)] [q4 1 3,q2 1 0,q4 0 4,q2 1 2,q4 1 4,q2 1 4,q4 2 4,q2 1 6,q78_ 3,q78_ 5,q78_ 7,jn (.build [(.nil true 1),(.nil true 1),(.nil true 1)] [(0,1,(.r 8)),(1,1,(.r 9)),(2,1,(.r 10))]),q64_ 3 11,q53_ 3 1 12,q4 1 3,q8 1 14 13])))
 (jr [qb 7 1,q1 7 0])))))))
 (.seq (jr [qh 2 3,q6 2 2 0])
 .ret)))),
 [.cell true 2 2]⟩
def w9i:IFun:=⟨[0,1,2,3,4,5,6,7,8,10,18,44,45,46,47,73],
 (.seq (jr [q55_ 2 4 0,q55_ 3 4 1,qi 4 0 3 0 0,q5 5])
 (.seq (.seq (jr [qh 4 2,jn (.call false w5u [(.r 0)]),q77_ 1,qd 2,q76_ 3 4 3,jf 3 (.call false w5u [(.r 4)]),q56_ 3 5,qp 10 3 6])
 (.cond (.v 10) (.seq (jr [q52_ 0 3 0 0,q6 4 4 0,q5 5])
 .ret) .skip))
 (.seq (jr [jn (.mkfn w5r [(.v 3),(.v 2)]),js 6 (.alloc wea [.nilf]),q6 1 6 0])
 (.seq (jr [jn (.mkfn w5s [(.v 6)]),q1 7 0])
 (.seq (.region true [(8,3),(8,4),(8,6),(9,3)] [q4 0 2,q36_ 2 0,q4 2 2,q2 1 2,q45_ 1 6,q4 3 3,q2 1 5,qi 8 0 3 0 0,jn (.call false w69 [(.r 1)]),jn (.callv false (.r 4) [(.r 6)]),jn (.build [(.int .i64 0),(.nil false 3),(.int .i64 0),(.int .i64 0)] [(0,2,(.r 8)),(2,1,(.r 3)),(3,1,(.r 9))]),q6 4 8 10])
 (.seq (jr [q4 0 8,qf 0 0,q2 1 1,q4 0 3,qf 0 3,q2 1 4,q9 5 1,qq 2 6,q4 0 8,qf 0 8,q8 1 9 7])
 (.seq (.seq (jr [q4 0 3,qf 1 0,q37_ 11 1 1,qu 12 11,qc 13 0])
 (.block 0 (.loop [false,false,false,false,true,false,false,true,true,false,false,true,true,true,false,false] (.seq (jr [qa 14 13 12])
 (.seq (.cond (.v 14) .skip (.exit 0))
 (.seq (.block 1 (.seq (jr [qo 3 11 13,q36_ 3 0,ql 9 1 1 1,q6 3 9 1])
 (.region true [(12,2),(12,8),(12,11),(13,2),(13,11),(14,2),(16,2)] [q4 0 8,qf 1 0,q2 1 1,q0 7,q4 0 9,q2 1 4,q0 7,q4 1 9,q2 1 7,q0 7,q4 2 9,q2 1 10,jn (.callv false (.r 3) [(.r 5)]),jn (.callv false (.r 6) [(.r 8)]),jn (.callv false (.r 9) [(.r 11)]),jn (.build [(.nil true 1),(.nil true 1),(.nil true 1)] [(0,1,(.r 12)),(1,1,(.r 13)),(2,1,(.r 14))]),q64_ 3 15,q53_ 3 2 16,q4 0 8,qf 1 18,q8 1 19 17])))
 (jr [qb 13 1,q1 13 0])))))))
 (.seq (.seq (jr [qh 4 8,jn (.call false w5u [(.r 0)]),q72_ 15 1])
 (.cond (.v 15) (.seq (jr [q52_ 0 3 0 0,q6 4 4 0,q5 5])
 .ret) .skip))
 (.seq (jr [qh 4 8,q6 4 4 0,qr 5])
 .ret))))))))),
 [.cell true 4 4,.v 5]⟩
def wbx:IFun:=⟨[0,1,2,6],
 (.seq (jr [q5 3])
 (.seq (jr [q0 0,q0 1,jn (.bin false .geq (.r 0) (.r 1)),qd 2,qg 3 0,qg 3 2,jt 3 (.bin false .leq (.r 4) (.r 5)),qx 3 6,q1 3 7])
 .ret)),
 [.v 3]⟩
def wbz:IFun:=⟨[0,2],
 (.seq (jr [q5 1])
 (.seq (jr [q0 0,jn (.call false w84 [(.r 0),(jc 1),(jc 16)]),q1 1 1])
 .ret)),
 [.v 1]⟩
def wc1:IFun:=⟨[0,1,2,6,7,8,9,10,11,12,33],
 (.seq (jr [q5 3])
 (.seq (.seq (jr [q62_ 6 0,qu 7 6,qc 8 0])
 (.block 0 (.loop [true,true,true,false,false,false,true,true,true,false,false] (.seq (jr [qa 9 8 7])
 (.seq (.cond (.v 9) .skip (.exit 0))
 (.seq (.block 1 (.seq (jr [q0 8,qo 1 6 8,q2 1 1,q1 4 0,q1 5 2])
 (.seq (jr [q0 5,q0 1,q0 2,jn (.call false w84 [(.r 0),(.r 1),(.r 2)]),q77_ 3,qd 4,q43_ 5 4,jf 5 (.bin false .gtr (.r 6) (jc 0)),jf 5 (.mov (.r 7)),qg 8 0,qg 8 4,q73_ 8 10 1,qv 8 1 9 11,qj 8 1 12,qg 8 5,jt 8 (.bin false .geq (.r 13) (.r 14)),jf 5 (.pick (.r 8) (.r 15) (.c (.bool false))),qp 10 5 16])
 (.cond (.v 10) (.seq (jr [q5 3])
 .ret) .skip))))
 (jr [qb 8 1,q1 8 0])))))))
 (.seq (jr [qr 3])
 .ret))),
 [.v 3]⟩
def wbn:IFun:=⟨[0,1,2,4,14,16,17,18,19,52],
 (.seq (jr [q47_ 1 2 0,q5 2])
 (.seq (.seq (jr [q4 0 1,q2 1 0,jn (.call false w86 [(.r 1)]),q77_ 2,qd 3,qn 4 1 1,qe 4 1 5,q65_ 4 6,jf 4 (.bin false .gtr (.r 7) (jc 24)),qp 4 4 8])
 (.cond (.v 4) (.seq (jr [q5 2])
 .ret) .skip))
 (.seq (.seq (jr [q4 1 1,q37_ 5 1 0,qu 6 5,qc 7 0])
 (.block 0 (.loop [false,true,false,false,false,true,true,true,false,false] (.seq (jr [qa 8 7 6])
 (.seq (.cond (.v 8) .skip (.exit 0))
 (.seq (.block 1 (.seq (jr [qo 3 5 7,q36_ 3 0,ql 3 1 1 1,q6 3 3 1])
 (.seq (jr [q4 0 3,q2 1 0,qz 1,q67_ 2 0,qd 3,qn 4 0 3,qe 4 1 5,qn 4 0 1,qe 4 1 7,q61_ 4 8 1,jf 4 (.call false w88 [(.r 6),(jc 0),(.r 9)]),q56_ 4 10,qk 4 11,qd 12,qn 13 1 3,qe 13 1 14,qn 13 0 1,qe 13 1 16,q61_ 13 17 1,jf 13 (.call false w88 [(.r 15),(jc 0),(.r 18)]),q56_ 13 19,qk 13 20,qd 21,qn 22 2 3,qe 22 1 23,qn 22 0 1,qe 22 1 25,q61_ 22 26 1,jf 22 (.call false w88 [(.r 24),(jc 0),(.r 27)]),q56_ 22 28,qp 9 22 29])
 (.cond (.v 9) (.seq (jr [q5 2])
 .ret) .skip))))
 (jr [qb 7 1,q1 7 0])))))))
 (.seq (jr [qr 2])
 .ret)))),
 [.v 2]⟩
def wc4:IFun:=⟨[0,1,2,4,5,6,7,8,9,10,11,13,15,26,28,29,30,31,36,37,38,39,57,62,63,64,65],
 (.seq (jr [q47_ 2 2 0,q79_ 3 1,q79_ 4 1])
 (.seq (jr [q4 0 2,q2 1 0,q51_ 1 1,q1 5 2])
 (.seq (jr [q4 1 2,q2 1 0,qz 1,q51_ 1 2,q1 6 3])
 (.seq (jr [q0 5,q0 1,q3 1 0 1,q48_ 1 2])
 (.seq (.seq (jr [qr 7])
 (.block 0 (.loop [false,false,true,false,false,true,true,true,false,false,false,false,false,false,false,false,false,false,false,false,false,false,false,false,false,false,false] (.seq (.seq (jr [q62_ 13 7])
 (.cond (.v 13) .skip (.exit 0)))
 (.block 1 (.seq (jr [q5 7])
 (.seq (jr [q4 1 2,q37_ 14 1 0,qu 15 14,qc 16 0])
 (.block 2 (.loop [false,false,true,false,false,true,true,true,false,false,false,false,false,false,true,true,true,false,false,false,false,false,false,false,false,false,false] (.seq (jr [qa 17 16 15])
 (.seq (.cond (.v 17) .skip (.exit 2))
 (.seq (.block 3 (.seq (jr [q0 16,qo 3 14 16,q36_ 3 1,ql 9 1 1 1,q1 8 0,q6 3 9 2])
 (.seq (jr [q5 10])
 (.seq (.seq (jr [q4 0 9,q37_ 18 1 0,qu 19 18,qc 20 0])
 (.block 4 (.loop [false,false,true,false,false,true,true,true,true,true,true,false,false,false,true,true,true,false,true,true,true,false,false,false,false,false,false] (.seq (jr [qa 21 20 19])
 (.seq (.cond (.v 21) .skip (.exit 4))
 (.seq (.block 5 (.seq (jr [qo 1 18 20,q2 1 0,q1 11 1])
 (jr [q0 10,qd 0,q43_ 1 5,q43_ 1 11,jf 1 (.iaddr 1 (.r 2) (.r 3)),qe 1 1 4,qk 1 5,q1 10 6])))
 (jr [qb 20 1,q1 20 0])))))))
 (.seq (.seq (jr [q0 10,q77_ 0,qd 1,q43_ 2 6,q43_ 2 8,jf 2 (.iaddr 1 (.r 3) (.r 4)),qe 2 1 5,qp 22 2 6])
 (.cond (.v 22) (.exit 3) .skip))
 (.seq (jr [q0 6,q0 8,q3 1 0 1,q48_ 1 2])
 (.seq (jr [qr 7])
 (.seq (jr [q4 1 9,q37_ 23 1 0,qu 24 23,qc 25 0])
 (.block 6 (.loop [false,false,true,false,false,true,true,true,false,false,false,false,false,false,true,true,true,false,false,false,false,false,false,true,true,true,false] (.seq (jr [qa 26 25 24])
 (.seq (.cond (.v 26) .skip (.exit 6))
 (.seq (.block 7 (.seq (jr [qo 1 23 25,q2 1 0,q1 12 1])
 (jr [q0 5,q0 12,q3 1 0 1,q48_ 1 2])))
 (jr [qb 25 1,q1 25 0]))))))))))))))
 (jr [qb 16 1,q1 16 0])))))))))))))
 (.seq (jr [q0 5,q0 6,q1 3 0,q1 4 1])
 .ret)))))),
 [.v 3,.v 4]⟩
def wc2:IFun:=⟨[0,1,2,4,5,6,7,8,9,10,11,13,15,26,28,29,30,31,36,37,38,39,57,62,63,64,65],
 (.seq (jr [q47_ 2 2 0,q79_ 3 1,q79_ 4 1])
 (.seq (jr [q4 0 2,q2 1 0,q51_ 1 1,q1 5 2])
 (.seq (jr [q4 1 2,q2 1 0,qz 1,q51_ 1 2,q1 6 3])
 (.seq (jr [q0 5,q0 1,q3 1 0 1,q48_ 1 2])
 (.seq (.seq (jr [qr 7])
 (.block 0 (.loop [false,false,true,false,false,true,true,true,false,false,false,false,false,false,false,false,false,false,false,false,false,false,false,false,false,false,false] (.seq (.seq (jr [q62_ 13 7])
 (.cond (.v 13) .skip (.exit 0)))
 (.block 1 (.seq (jr [q5 7])
 (.seq (jr [q4 1 2,q37_ 14 1 0,qu 15 14,qc 16 0])
 (.block 2 (.loop [false,false,true,false,false,true,true,true,false,false,false,false,false,false,true,true,true,false,false,false,false,false,false,false,false,false,false] (.seq (jr [qa 17 16 15])
 (.seq (.cond (.v 17) .skip (.exit 2))
 (.seq (.block 3 (.seq (jr [q0 16,qo 3 14 16,q36_ 3 1,ql 9 1 1 1,q1 8 0,q6 3 9 2])
 (.seq (jr [q5 10])
 (.seq (.seq (jr [q4 1 9,q37_ 18 1 0,qu 19 18,qc 20 0])
 (.block 4 (.loop [false,false,true,false,false,true,true,true,true,true,true,false,false,false,true,true,true,false,true,true,true,false,false,false,false,false,false] (.seq (jr [qa 21 20 19])
 (.seq (.cond (.v 21) .skip (.exit 4))
 (.seq (.block 5 (.seq (jr [qo 1 18 20,q2 1 0,q1 11 1])
 (jr [q0 10,qd 0,q43_ 1 5,q43_ 1 11,jf 1 (.iaddr 1 (.r 2) (.r 3)),qe 1 1 4,qk 1 5,q1 10 6])))
 (jr [qb 20 1,q1 20 0])))))))
 (.seq (.seq (jr [q0 10,q77_ 0,qd 1,q43_ 2 6,q43_ 2 8,jf 2 (.iaddr 1 (.r 3) (.r 4)),qe 2 1 5,qp 22 2 6])
 (.cond (.v 22) (.exit 3) .skip))
 (.seq (jr [q0 6,q0 8,q3 1 0 1,q48_ 1 2])
 (.seq (jr [qr 7])
 (.seq (jr [q4 0 9,q37_ 23 1 0,qu 24 23,qc 25 0])
 (.block 6 (.loop [false,false,true,false,false,true,true,true,false,false,false,false,false,false,true,true,true,false,false,false,false,false,false,true,true,true,false] (.seq (jr [qa 26 25 24])
 (.seq (.cond (.v 26) .skip (.exit 6))
 (.seq (.block 7 (.seq (jr [qo 1 23 25,q2 1 0,q1 12 1])
 (jr [q0 5,q0 12,q3 1 0 1,q48_ 1 2])))
 (jr [qb 25 1,q1 25 0]))))))))))))))
 (jr [qb 16 1,q1 16 0])))))))))))))
 (.seq (jr [q0 5,q0 6,q1 3 0,q1 4 1])
 .ret)))))),
 [.v 3,.v 4]⟩
def wc3:IFun:=⟨[0,1,4,5,6,8,9,10,21],
 (.seq (jr [qs 2 1])
 (.seq (jr [qs 3 1])
 (.seq (.seq (jr [q0 0,q60_ 5 0,qc 6 0])
 (.block 0 (.loop [true,true,false,true,false,true,true,false,false] (.seq (jr [qa 7 6 5])
 (.seq (.cond (.v 7) .skip (.exit 0))
 (.seq (.block 1 (.seq (jr [q0 6,q1 4 0])
 (.seq (jr [q0 0,q0 4,q3 1 0 1,q2 1 2,qd 3,qg 4 1,qg 4 4,qv 4 1 5 6,qj 4 1 7,qt 8 4 8])
 (.cond (.v 8) (jr [q0 3,q0 4,qy 1 1,q41_ 1 0 2,q1 3 3]) .skip))))
 (jr [qb 6 1,q1 6 0])))))))
 (.seq (jr [q0 3,q1 2 0])
 .ret)))),
 [.v 2]⟩
def wbo:IFun:=⟨[0,1,2,3,6,7,8,9,10,11,12,31],
 (.seq (jr [q47_ 3 2 0,qs 4 1,qs 5 1,q5 6])
 (.seq (.seq (jr [qh 2 3,jn (.call false w7u [(.r 0)]),q77_ 1,qd 2,q43_ 3 1,qn 3 0 3,qe 3 1 5,q61_ 3 6 1,jf 3 (.call false w84 [(.r 4),(jc 0),(.r 7)]),q56_ 3 8,qk 3 9,qd 10,q43_ 11 2,qn 11 0 3,qe 11 1 13,q61_ 11 14 1,jf 11 (.call false w84 [(.r 12),(jc 0),(.r 15)]),q56_ 11 16,qp 11 11 17])
 (.cond (.v 11) (.seq (jr [qs 4 1,qs 5 1,q5 6])
 .ret) .skip))
 (.seq (jr [qh 2 3,q0 1,jn (.call false w8b [(.r 0),(.r 1)]),qd 2,qm 3 0,qm 3 1,q1 7 4,q1 8 5])
 (.seq (jr [qh 2 3,q0 2,jn (.call false w89 [(.r 0),(.r 1)]),qd 2,qm 3 0,qm 3 1,q1 9 4,q1 10 5])
 (.seq (jr [q0 7,q0 9,jn (.call false w8a [(.r 0),(.r 1)]),q0 8,q0 10,jn (.call false w8a [(.r 3),(.r 4)]),q1 4 2,q1 5 5,qr 6])
 .ret))))),
 [.v 4,.v 5,.v 6]⟩
def wbw:IFun:=⟨[0,1,4,6,7,8,9,10,15],
 (.seq (jr [q5 2])
 (.seq (.seq (jr [q62_ 4 0,qu 5 4,qc 6 0])
 (.block 0 (.loop [false,true,false,false,true,true,true,false,false] (.seq (jr [qa 7 6 5])
 (.seq (.cond (.v 7) .skip (.exit 0))
 (.seq (.block 1 (.seq (jr [qo 1 4 6,q2 1 0,q1 3 1])
 (.seq (jr [q0 3,q0 1,js 8 (.bin false .eql (.r 0) (.r 1))])
 (.cond (.v 8) (.seq (jr [qr 2])
 .ret) .skip))))
 (jr [qb 6 1,q1 6 0])))))))
 (.seq (jr [q5 2])
 .ret))),
 [.v 2]⟩
def wbm:IFun:=⟨[0,1,2,3,4,5,7,44,47,48,49,50,78],
 (.seq (jr [q55_ 1 4 0,q5 2])
 (.seq (jr [q4 0 1,q36_ 2 0,q4 2 1,q2 1 2,q4 3 1,q2 1 4,jn (.call false w7v [(.r 1),(.r 3),(.r 5)]),qd 6,qm 7 0,qm 7 1,qm 7 2,q1 3 8,q1 4 9,q1 5 10])
 (.seq (.seq (jr [q0 5,q77_ 0,qd 1,qn 2 2 1,qe 2 1 3,qn 2 3 1,qe 2 1 5,jf 2 (.bin false .eql (.r 4) (.r 6)),qk 2 7,qd 8,q43_ 9 3,q65_ 9 10,qn 9 0 1,jf 9 (.faddr 0 (.r 12)),qe 9 1 13,jf 9 (.bin false .neq (.r 11) (.r 14)),qk 9 15,qd 16,q43_ 17 4,q65_ 17 18,qn 17 0 1,jf 17 (.faddr 1 (.r 20)),qe 17 1 21,q65_ 17 22,jf 17 (.bin false .neq (.r 19) (.r 23)),qp 7 17 24])
 (.cond (.v 7) (.seq (jr [q5 2])
 .ret) .skip))
 (.seq (.seq (jr [q4 0 1,qf 1 0,q37_ 8 1 1,qu 9 8,qc 10 0])
 (.block 0 (.loop [false,true,false,false,false,false,false,false,true,true,true,false,false] (.seq (jr [qa 11 10 9])
 (.seq (.cond (.v 11) .skip (.exit 0))
 (.seq (.block 1 (.seq (jr [qo 3 8 10,q36_ 3 0,ql 6 1 1 1,q6 3 6 1])
 (.seq (jr [q4 1 6,q2 1 0,q4 2 1,q2 1 2,jn (.call false w83 [(.r 1),(.r 3)]),qd 4,qn 5 0 6,qe 5 1 6,qn 5 3 1,qe 5 1 8,jf 5 (.call false w83 [(.r 7),(.r 9)]),qk 5 10,qd 11,qn 12 2 6,qe 12 1 13,qn 12 2 1,qe 12 1 15,jf 12 (.call false w83 [(.r 14),(.r 16)]),qk 12 17,qd 18,qn 19 2 6,qe 19 1 20,qn 19 3 1,qe 19 1 22,jf 19 (.call false w83 [(.r 21),(.r 23)]),qp 12 19 24])
 (.cond (.v 12) (.seq (jr [q5 2])
 .ret) .skip))))
 (jr [qb 10 1,q1 10 0])))))))
 (.seq (jr [qr 2])
 .ret))))),
 [.v 2]⟩
def wby:IFun:=⟨[0,2],
 (.seq (jr [qs 1 1])
 (.seq (jr [jn (.bslice false t_int true 1 []),q0 0,q41_ 1 0 1,q1 1 2])
 .ret)),
 [.v 1]⟩
def wc6:IFun:=⟨[0,1,2,3,5,10,11,12,13],
 (.seq (jr [q47_ 1 2 0,q54_ 2 0 3])
 (.seq (jr [q4 0 1,q2 1 0,jn (.build [(.int .i64 0),(.nil false 3)] [(0,1,(.r 1))]),q54_ 3 0 3,q6 2 3 2])
 (.seq (.seq (jr [q4 1 1,q37_ 5 1 0,qu 6 5,qc 7 0])
 (.block 0 (.loop [false,false,true,true,false,true,true,true,false] (.seq (jr [qa 8 7 6])
 (.seq (.cond (.v 8) .skip (.exit 0))
 (.seq (.block 1 (.seq (jr [qo 3 5 7,q36_ 3 0,ql 4 1 1 1,q6 3 4 1])
 (.region true [(8,1),(8,5),(8,7),(9,1),(9,7),(10,1),(12,1)] [q4 1 3,q2 1 0,q4 0 4,q2 1 2,q4 1 4,q2 1 4,q4 2 4,q2 1 6,jn (.call false w85 [(.r 3)]),jn (.call false w85 [(.r 5)]),jn (.call false w85 [(.r 7)]),jn (.build [(.nil true 1),(.nil true 1),(.nil true 1)] [(0,1,(.r 8)),(1,1,(.r 9)),(2,1,(.r 10))]),q64_ 3 11,q53_ 3 1 12,q4 1 3,q8 1 14 13])))
 (jr [qb 7 1,q1 7 0])))))))
 (.seq (jr [qh 2 3,q6 2 2 0])
 .ret)))),
 [.cell true 2 2]⟩
def wc5:IFun:=⟨[0,1,4,5,7,8,9,10,11],
 (.seq (jr [qs 2 1])
 (.seq (jr [qs 3 1])
 (.seq (.seq (jr [q62_ 5 0,qu 6 5,qc 7 0])
 (.block 0 (.loop [false,true,false,true,false,true,true,true,false] (.seq (jr [qa 8 7 6])
 (.seq (.cond (.v 8) .skip (.exit 0))
 (.seq (.block 1 (.seq (jr [qo 1 5 7,q2 1 0,q1 4 1])
 (jr [q0 3,q0 1,q0 4,q3 1 1 2,q2 1 3,jn (.callm w87 [(.r 0),(.r 4)]),q1 3 5])))
 (jr [qb 7 1,q1 7 0])))))))
 (.seq (jr [q0 3,q1 2 0])
 .ret)))),
 [.v 2]⟩
def wbk:IFun:=⟨[0,1,2,3,4,5,6,7,8,10,18,31,32,33,43,59,60,61,62,94],
 (.seq (jr [q55_ 2 4 0,q55_ 3 4 1,qi 4 0 3 0 0,q5 5])
 (.seq (.seq (jr [qh 4 2,jn (.call false w7t [(.r 0)]),q77_ 1,qd 2,q76_ 3 4 3,jf 3 (.call false w7t [(.r 4)]),q56_ 3 5,qp 10 3 6])
 (.cond (.v 10) (.seq (jr [q52_ 0 3 0 0,q6 4 4 0,q5 5])
 .ret) .skip))
 (.seq (.region true [(5,3)] [q4 0 2,q36_ 2 0,q4 2 2,q2 1 2,qi 6 0 3 0 0,jn (.call false w8d [(.r 1)]),jn (.build [(.int .i64 0),(.nil false 3),(.int .i64 0),(.int .i64 0)] [(0,2,(.r 5)),(2,1,(.r 3))]),q6 4 6 6])
 (.seq (jr [q4 0 3,qf 0 0,q2 1 1,jn (.mk t_int true 1 (.int .i64 0) (.r 2)),q1 7 3])
 (.seq (.seq (jr [q0 7,q60_ 11 0,qc 12 0])
 (.block 0 (.loop [false,false,true,true,true,false,true,true,false,false,false,true,true,false,false,false,false,false,false,false] (.seq (jr [qa 13 12 11])
 (.seq (.cond (.v 13) .skip (.exit 0))
 (.seq (.block 1 (.seq (jr [q0 12,q1 8 0])
 (.seq (jr [q0 7,q0 8,q4 3 2,q2 1 2,q3 1 0 1,q8 1 4 3])
 (.seq (jr [q0 8,q4 2 3,q2 1 1,q75_ 14 0 2])
 (.cond (.v 14) (.seq (jr [q0 7,q0 8,q4 0 6,qf 0 2,q2 1 3,q3 1 0 1,q8 1 5 4])
 (jr [q4 0 6,qf 0 0,q2 1 1,q7 2 1,q4 0 6,qf 0 4,q8 1 5 3])) .skip)))))
 (jr [qb 12 1,q1 12 0])))))))
 (.seq (.seq (jr [q4 0 3,qf 1 0,q37_ 15 1 1,qu 16 15,qc 17 0])
 (.block 2 (.loop [false,false,false,true,true,false,true,true,false,false,false,false,false,false,false,true,true,true,false,false] (.seq (jr [qa 18 17 16])
 (.seq (.cond (.v 18) .skip (.exit 2))
 (.seq (.block 3 (.seq (jr [qo 3 15 17,q36_ 3 0,ql 9 1 1 1,q6 3 9 1])
 (.region true [(12,2),(12,7),(12,10),(13,2),(13,10),(14,2),(16,2)] [q4 0 6,qf 1 0,q2 1 1,q4 0 9,q2 1 3,q0 7,q4 1 9,q2 1 6,q0 7,q4 2 9,q2 1 9,q0 7,jn (.call false w8c [(.r 4),(.r 5)]),jn (.call false w8c [(.r 7),(.r 8)]),jn (.call false w8c [(.r 10),(.r 11)]),jn (.build [(.nil true 1),(.nil true 1),(.nil true 1)] [(0,1,(.r 12)),(1,1,(.r 13)),(2,1,(.r 14))]),q64_ 3 15,q53_ 3 2 16,q4 0 6,qf 1 18,q8 1 19 17])))
 (jr [qb 17 1,q1 17 0])))))))
 (.seq (jr [q0 7,q4 3 3,q2 1 1,q3 1 0 2,q2 1 3,q4 3 6,q8 1 5 4])
 (.seq (.seq (jr [qh 4 6,jn (.call false w7t [(.r 0)]),q72_ 19 1])
 (.cond (.v 19) (.seq (jr [q52_ 0 3 0 0,q6 4 4 0,q5 5])
 .ret) .skip))
 (.seq (jr [qh 4 6,q6 4 4 0,qr 5])
 .ret))))))))),
 [.cell true 4 4,.v 5]⟩
def wal:IFun:=⟨[0,1,4,5,10,12,13,14,24],
 (.seq (jr [q5 2])
 (.seq (.seq (jr [q0 0,qz 0,q0 1,qz 2,q75_ 4 1 3])
 (.cond (.v 4) (.seq (jr [q5 2])
 .ret) .skip))
 (.seq (.seq (jr [q0 0,q60_ 5 0,qc 6 0])
 (.block 0 (.loop [true,true,false,false,false,true,true,false,false] (.seq (jr [qa 7 6 5])
 (.seq (.cond (.v 7) .skip (.exit 0))
 (.seq (.block 1 (.seq (jr [q0 6,q1 3 0])
 (.seq (.region true [] [q0 0,q0 3,q3 1 0 1,q2 1 2,q0 1,q0 3,q3 1 4 5,q2 1 6,q75_ 8 3 7])
 (.cond (.v 8) (.seq (jr [q5 2])
 .ret) .skip))))
 (jr [qb 6 1,q1 6 0])))))))
 (.seq (jr [qr 2])
 .ret)))),
 [.v 2]⟩
def wam:IFun:=⟨[0,1,2,3,4,5,6,7,21,23,24,25,26,56],
 (.seq (jr [q47_ 2 2 0,q47_ 3 2 1,q5 4])
 (.seq (.seq (jr [q4 0 2,q2 1 0,q4 0 3,q2 1 2,jn (.bin false .neq (.r 1) (.r 3)),qd 4,qn 5 1 2,qe 5 1 6,q65_ 5 7,qn 5 1 3,qe 5 1 9,q65_ 5 10,jf 5 (.bin false .neq (.r 8) (.r 11)),qp 8 5 12])
 (.cond (.v 8) (.seq (jr [q5 4])
 .ret) .skip))
 (.seq (.seq (jr [q4 1 2,q37_ 9 1 0,qu 10 9,qc 11 0])
 (.block 0 (.loop [false,false,false,true,false,false,false,false,false,true,true,true,false,false] (.seq (jr [qa 12 11 10])
 (.seq (.cond (.v 12) .skip (.exit 0))
 (.seq (.block 1 (.seq (jr [q0 11,qo 3 9 11,q36_ 3 1,ql 6 1 1 1,q1 5 0,q6 3 6 2])
 (.seq (jr [q4 1 3,q2 1 0,q0 5,q3 3 1 2,q36_ 3 3,ql 7 1 1 1,q6 3 7 4])
 (.seq (jr [q4 0 6,q2 1 0,q4 0 7,q2 1 2,jn (.call false w6t [(.r 1),(.r 3)]),q77_ 4,qd 5,qn 6 1 6,qe 6 1 7,qn 6 1 7,qe 6 1 9,jf 6 (.call false w6t [(.r 8),(.r 10)]),q56_ 6 11,qk 6 12,qd 13,qn 14 2 6,qe 14 1 15,qn 14 2 7,qe 14 1 17,jf 14 (.call false w6t [(.r 16),(.r 18)]),q56_ 14 19,qp 13 14 20])
 (.cond (.v 13) (.seq (jr [q5 4])
 .ret) .skip)))))
 (jr [qb 11 1,q1 11 0])))))))
 (.seq (jr [qr 4])
 .ret)))),
 [.v 4]⟩
def wak:IFun:=⟨[0,1,2,3,4],
 (.seq (jr [q55_ 2 4 0,q55_ 3 4 1,q5 4])
 (.seq (jr [q4 2 2,q2 1 0,q4 2 3,q2 1 2,q68_ 1 3,qd 4,q59_ 5 3 2,qj 5 1 6,q59_ 5 3 3,qj 5 1 8,jt 5 (.bin false .eql (.r 7) (.r 9)),qx 5 10,qd 11,q59_ 12 0 2,jt 12 (.load true 2 (.r 13)),q59_ 12 0 3,jt 12 (.load true 2 (.r 15)),jt 12 (.call false w6u [(.r 14),(.r 16)]),qx 12 17,q1 4 18])
 .ret)),
 [.v 4]⟩
def wa8:IFun:=⟨[0,1,2,4],
 (.seq (jr [q55_ 2 4 0,q5 3])
 (.seq (jr [qh 4 2,jn (.call false w5u [(.r 0)]),qd 1,qg 2 1,jt 2 (.call false w6p [(.r 3),(jc 1),(jc 400)]),qx 2 4,q1 3 5])
 .ret)),
 [.v 3]⟩
def waf:IFun:=⟨[0,1,4,5],
 (.seq (jr [qs 2 1])
 (.seq (jr [q0 0,jn (.mk t_int true 1 (.int .i64 0) (.r 0)),q1 3 1])
 (.seq (jr [q0 3,q0 1,q3 1 0 1,jn (.store 1 (.r 2) (jc 1))])
 (.seq (jr [q0 3,q1 2 0])
 .ret)))),
 [.v 2]⟩
def wag:IFun:=⟨[0,1,2],
 (.seq (jr [q55_ 1 4 0,qs 2 1])
 (.seq (jr [q4 0 1,qf 0 0,q2 1 1,q4 2 1,q2 1 3,jn (.call false w6n [(.r 2),(.r 4)]),q1 2 5])
 .ret)),
 [.v 2]⟩
def waa:IFun:=⟨[0,1,3],
 (.seq (jr [q5 2])
 (.seq (jr [q45_ 1 1,q0 0,q3 1 0 1,q2 1 2,q67_ 3 0,q1 2 4])
 .ret)),
 [.v 2]⟩
def wa9:IFun:=⟨[0,1,2,3,4],
 (.seq (jr [js 2 (.box we4 3 (.v 0)),js 3 (.box we7 1 (.v 1)),q5 4])
 (.seq (jr [q4 0 2,q2 1 0,jn (.mkfn w6i [(.v 3)]),jn (.call false w71 [(.r 1),(.r 2)]),q77_ 3,q1 4 4])
 .ret)),
 [.v 4]⟩
def wa3:IFun:=⟨[0,1,2,4,5,6,7,9,10,11,12,18],
 (.seq (jr [q47_ 2 2 0,qs 3 1])
 (.seq (jr [qs 4 1])
 (.seq (.seq (jr [q4 1 2,q37_ 7 1 0,qu 8 7,qc 9 0])
 (.block 0 (.loop [false,true,false,false,true,false,false,true,true,true,false,false] (.seq (jr [qa 10 9 8])
 (.seq (.cond (.v 10) .skip (.exit 0))
 (.seq (.block 1 (.seq (jr [q0 9,qo 3 7 9,q36_ 3 1,ql 6 1 1 1,q1 5 0,q6 3 6 2])
 (.seq (jr [qh 3 6,q0 1,js 11 (.call false w6h [(.r 0),(.r 1)])])
 (.cond (.v 11) (jr [q0 4,q0 5,qy 1 1,q41_ 1 0 2,q1 4 3]) .skip))))
 (jr [qb 9 1,q1 9 0])))))))
 (.seq (jr [q0 4,q1 3 0])
 .ret)))),
 [.v 3]⟩
def wa6:IFun:=⟨[0,1,2,4,5,7,9,11,15,16,17,18,29,30,31,32,40,41,42,43],
 (.seq (jr [js 2 (.box we4 3 (.v 0)),qs 3 1])
 (.seq (jr [q0 1,q78_ 0,q1 4 1])
 (.seq (.seq (jr [q4 0 2,q37_ 8 1 0,qu 9 8,qc 10 0])
 (.block 0 (.loop [false,false,true,false,true,false,false,false,true,true,true,false,false,false,false,false,false,false,false,false] (.seq (jr [qa 11 10 9])
 (.seq (.cond (.v 11) .skip (.exit 0))
 (.seq (.block 1 (.seq (jr [qo 1 8 10,q2 1 0,q1 5 1])
 (jr [q0 4,q0 5,q3 1 0 1,q2 1 2,q9 3 1,q3 1 0 1,q8 1 5 4])))
 (jr [qb 10 1,q1 10 0])))))))
 (.seq (.seq (jr [q4 2 2,q37_ 12 1 0,qu 13 12,qc 14 0])
 (.block 2 (.loop [false,false,true,false,true,false,false,false,false,false,false,false,true,true,true,false,false,false,false,false] (.seq (jr [qa 15 14 13])
 (.seq (.cond (.v 15) .skip (.exit 2))
 (.seq (.block 3 (.seq (jr [qo 1 12 14,q2 1 0,q1 6 1])
 (jr [q0 4,q0 6,q3 1 0 1,jn (.store 1 (.r 2) (jc 0))])))
 (jr [qb 14 1,q1 14 0])))))))
 (.seq (.seq (jr [q4 1 2,q37_ 16 1 0,qu 17 16,qc 18 0])
 (.block 4 (.loop [false,false,false,false,true,false,false,false,false,false,false,false,false,false,false,false,true,true,true,false] (.seq (jr [qa 19 18 17])
 (.seq (.cond (.v 19) .skip (.exit 4))
 (.seq (.block 5 (.seq (jr [qo 1 16 18,q2 1 0,q1 7 1])
 (jr [q0 4,q0 7,q3 1 0 1,q2 1 2,q7 3 1,q3 1 0 1,q8 1 5 4])))
 (jr [qb 18 1,q1 18 0])))))))
 (.seq (jr [q0 4,q1 3 0])
 .ret)))))),
 [.v 3]⟩
def wav:IFun:=⟨[0,1,4,5,10,12,13,14,24],
 (.seq (jr [q5 2])
 (.seq (.seq (jr [q0 0,qz 0,q0 1,qz 2,q75_ 4 1 3])
 (.cond (.v 4) (.seq (jr [q5 2])
 .ret) .skip))
 (.seq (.seq (jr [q0 0,q60_ 5 0,qc 6 0])
 (.block 0 (.loop [true,true,false,false,false,true,true,false,false] (.seq (jr [qa 7 6 5])
 (.seq (.cond (.v 7) .skip (.exit 0))
 (.seq (.block 1 (.seq (jr [q0 6,q1 3 0])
 (.seq (.region true [] [q0 0,q0 3,q3 1 0 1,q2 1 2,q0 1,q0 3,q3 1 4 5,q2 1 6,q75_ 8 3 7])
 (.cond (.v 8) (.seq (jr [q5 2])
 .ret) .skip))))
 (jr [qb 6 1,q1 6 0])))))))
 (.seq (jr [qr 2])
 .ret)))),
 [.v 2]⟩
def w9s:IFun:=⟨[0,1,3],
 (.seq (jr [q5 2])
 (.seq (jr [q0 0,q45_ 1 1,jn (.call false w73 [(.r 0),(.r 1)]),q1 2 2])
 .ret)),
 [.v 2]⟩
def wb0:IFun:=⟨[0,1,4,5,7,8,9,16],
 (.seq (jr [qc 2 0])
 (.seq (.seq (jr [q0 0,q60_ 4 0,qc 5 0])
 (.block 0 (.loop [true,true,false,false,true,true,false,false] (.seq (jr [qa 6 5 4])
 (.seq (.cond (.v 6) .skip (.exit 0))
 (.seq (.block 1 (.seq (jr [q0 5,q1 3 0])
 (.seq (jr [q0 1,q0 0,q0 3,q3 1 1 2,q2 1 3,js 7 (.callv false (.r 0) [(.r 4)])])
 (.cond (.v 7) (.seq (jr [q0 3,q1 2 0])
 .ret) .skip))))
 (jr [qb 5 1,q1 5 0])))))))
 (.seq (jr [js 2 (.mov (jc (-1)))])
 .ret))),
 [.v 2]⟩
def w9r:IFun:=⟨[0,1,2,3,4],
 (.seq (jr [js 2 (.box we3 2 (.v 0)),js 3 (.box we7 1 (.v 1)),qc 4 0])
 (.seq (jr [q4 0 2,q2 1 0,jn (.mkfn w60 [(.v 3)]),jn (.call false w77 [(.r 1),(.r 2)]),q1 4 3])
 .ret)),
 [.v 4]⟩
def wa5:IFun:=⟨[0,1,2,3,6,7,8,9,11,12,13,22,31,32,33,34,50,56,61],
 (.seq (jr [q47_ 3 2 0,q70_ 4 1 3,qc 5 0])
 (.seq (jr [q0 1,q78_ 0,jn (.bslice false we7 false 1 [(.r 1)]),jn (.build [(.nil false 1),(.nil true 3)] [(0,1,(.r 2))]),q70_ 6 1 3,q6 2 6 3])
 (.seq (.seq (jr [qc 7 0])
 (.block 0 (.loop [false,false,true,true,true,false,true,true,false,false,false,false,false,false,false,false,false,false,false] (.seq (.seq (jr [q0 7,q4 0 6,q2 1 1,qz 2,q44_ 11 0 3])
 (.cond (.v 11) .skip (.exit 0)))
 (.seq (.block 1 (.seq (.region true [] [qh 2 3,q4 0 6,q2 1 1,q0 7,q3 1 2 3,q2 1 4,qc 14 0,js 12 (.call false w6b [(.r 0),(.r 5)]),qu 13 12])
 (.block 2 (.loop [false,false,true,true,true,false,true,true,false,false,false,false,true,true,true,false,false,false,false] (.seq (jr [qa 15 14 13])
 (.seq (.cond (.v 15) .skip (.exit 2))
 (.seq (.block 3 (.seq (jr [qo 1 12 14,q2 1 0,q1 8 1])
 (.seq (.region true [] [q4 1 3,q2 1 0,q0 8,q3 3 1 2,q36_ 3 3,q4 0 6,q2 1 5,q0 7,q3 1 6 7,q2 1 8,jn (.call false w6e [(.r 4),(.r 9)]),q1 9 10])
 (.seq (.seq (jr [q0 9,jn (.call false w64 [(.r 0),(jc 0),(jc 50)]),q72_ 16 1])
 (.cond (.v 16) (.seq (jr [jn (.build [(.nil false 1),(.nil true 3)] []),q6 2 4 0,qc 5 3])
 .ret) .skip))
 (.seq (jr [qh 2 6,q0 9,jn (.call false w5z [(.r 0),(.r 1)]),q1 10 2])
 (.seq (.seq (jr [q0 10,q74_ 17 0 0])
 (.cond (.v 17) (.seq (.seq (jr [q4 0 6,q2 1 0,qz 1,q0 2,js 18 (.bin false .geq (.r 2) (.r 3))])
 (.cond (.v 18) (.seq (jr [jn (.build [(.nil false 1),(.nil true 3)] []),q6 2 4 0,qc 5 2])
 .ret) .skip))
 (.seq (jr [q4 0 6,q2 1 0,qz 1,q1 10 2])
 (jr [q4 0 6,q2 1 0,q0 9,jn (.bslice false we7 false 1 [(.r 2)]),jn (.append we7 false 1 (.r 1) (.r 3)),q4 0 6,q8 1 5 4]))) .skip))
 (jr [q4 1 6,q2 1 0,q0 7,q0 8,q0 10,jn (.build [(.int .i64 0),(.int .i64 0),(.int .i64 0)] [(0,1,(.r 2)),(1,1,(.r 3)),(2,1,(.r 4))]),jn (.bslice false we0 true 3 [(.r 5)]),jn (.append we0 true 3 (.r 1) (.r 6)),q4 1 6,q8 1 8 7])))))))
 (jr [qb 14 1,q1 14 0]))))))))
 (jr [q0 7,q7 0 1,q1 7 1]))))))
 (.seq (jr [qh 2 6,q6 2 4 0,qc 5 1])
 .ret)))),
 [.cell true 2 4,.v 5]⟩
def wa4:IFun:=⟨[0,1,2],
 (.seq (jr [q55_ 1 4 0,qs 2 1])
 (.seq (jr [q4 0 1,qf 0 0,q2 1 1,q4 3 1,q2 1 3,jn (.call false w6n [(.r 2),(.r 4)]),q1 2 5])
 .ret)),
 [.v 2]⟩
def w9t:IFun:=⟨[0,1,2,4,5,6,8,9,11,12,14,24,25,26,27,46,47,48,49,59,68,69,70,71,78],
 (.seq (jr [js 2 (.box we3 2 (.v 0)),q79_ 3 1])
 (.seq (jr [q4 0 2,q2 1 0,qz 1,q51_ 1 2,q1 4 3])
 (.seq (jr [q4 0 2,q2 1 0,qz 1,jn (.mkl we7 1 (.nil true 1) (.r 2)),q1 5 3])
 (.seq (.seq (jr [q4 1 2,js 11 (.ldf (.r 0)),qu 12 11,qc 13 0])
 (.block 0 (.loop [false,true,false,false,true,true,false,false,false,false,false,true,true,true,false,false,false,false,false,false,false,false,false,false,false] (.seq (jr [qa 14 13 12])
 (.seq (.cond (.v 14) .skip (.exit 0))
 (.seq (.block 1 (.seq (jr [qo 3 11 13,q36_ 3 0,js 6 (.alloc we0 [(.int .i64 0),(.int .i64 0),(.int .i64 0)]),jn (.stl 3 (.v 6) (.r 1))])
 (.region true [(10,2),(10,8),(11,2)] [q0 5,q4 2 6,q2 1 1,q0 5,q4 2 6,q2 1 4,q3 1 3 5,q4 0 6,q2 1 7,jn (.bslice true t_int true 1 [(.r 8)]),jn (.ldt t_int (.r 6)),jn (.apq t_int 1 (.r 10) (.r 9)),q3 1 0 2,jn (.stl 1 (.r 12) (.r 11))])))
 (jr [qb 13 1,q1 13 0])))))))
 (.seq (jr [q0 1,q78_ 0,q1 7 1])
 (.seq (.seq (jr [q62_ 15 1,qu 16 15,qc 17 0])
 (.block 2 (.loop [false,false,false,false,true,true,false,true,false,false,false,false,false,false,false,true,true,true,false,false,false,false,false,false,false] (.seq (jr [qa 18 17 16])
 (.seq (.cond (.v 18) .skip (.exit 2))
 (.seq (.block 3 (.seq (jr [qo 1 15 17,q2 1 0,q1 8 1])
 (jr [q0 4,q0 8,q3 1 0 1,jn (.stl 1 (.r 2) (.c (.bool true)))])))
 (jr [qb 17 1,q1 17 0])))))))
 (.seq (.seq (jr [qc 9 0])
 (.block 4 (.loop [false,false,false,false,true,true,false,true,false,true,false,false,false,false,false,false,false,false,false,false,false,false,false,false,false] (.seq (.seq (jr [q0 9,q0 7,qz 1,q44_ 19 0 2])
 (.cond (.v 19) .skip (.exit 4)))
 (.seq (.block 5 (.seq (jr [q0 5,q0 7,q0 9,q3 1 1 2,q2 1 3,q3 1 0 4,js 20 (.ldf (.r 5)),qu 21 20,qc 22 0])
 (.block 6 (.loop [false,false,false,false,true,true,false,true,false,true,false,false,false,false,false,false,false,false,false,false,true,true,true,false,false] (.seq (jr [qa 23 22 21])
 (.seq (.cond (.v 23) .skip (.exit 6))
 (.seq (.block 7 (.seq (jr [qo 1 20 22,q2 1 0,q1 10 1])
 (.seq (jr [q0 4,q0 10,q3 1 0 1,q2 1 2,q72_ 24 3])
 (.cond (.v 24) (.seq (jr [q0 4,q0 10,q3 1 0 1,jn (.stl 1 (.r 2) (.c (.bool true)))])
 (jr [q0 7,q0 10,qy 1 1,jn (.apq t_int 1 (.r 0) (.r 2)),q1 7 3])) .skip))))
 (jr [qb 22 1,q1 22 0]))))))))
 (jr [q0 9,q7 0 1,q1 9 1]))))))
 (.seq (jr [q0 4,q1 3 0])
 .ret)))))))),
 [.v 3]⟩
def wb1:IFun:=⟨[0,1,4,5,7,8,9,16],
 (.seq (jr [qc 2 0])
 (.seq (.seq (jr [q0 0,q60_ 4 0,qc 5 0])
 (.block 0 (.loop [true,true,false,false,true,true,false,false] (.seq (jr [qa 6 5 4])
 (.seq (.cond (.v 6) .skip (.exit 0))
 (.seq (.block 1 (.seq (jr [q0 5,q1 3 0])
 (.seq (jr [q0 1,q0 0,q0 3,q3 1 1 2,q2 1 3,js 7 (.bin true .eql (.r 0) (.r 4))])
 (.cond (.v 7) (.seq (jr [q0 3,q1 2 0])
 .ret) .skip))))
 (jr [qb 5 1,q1 5 0])))))))
 (.seq (jr [js 2 (.mov (jc (-1)))])
 .ret))),
 [.v 2]⟩
def wa2:IFun:=⟨[0,1,4,5,6,7,8,9,10,19],
 (.seq (jr [q5 2])
 (.seq (.seq (jr [q62_ 5 0,qu 6 5,qc 7 0])
 (.block 0 (.loop [false,true,false,false,false,true,true,true,false,false] (.seq (jr [qa 8 7 6])
 (.seq (.cond (.v 8) .skip (.exit 0))
 (.seq (.block 1 (.seq (jr [q0 7,qo 1 5 7,q2 1 1,q1 3 0,q1 4 2])
 (.seq (jr [q0 4,q0 1,q0 3,q3 1 1 2,q2 1 3,q44_ 9 0 4])
 (.cond (.v 9) (.seq (jr [q5 2])
 .ret) .skip))))
 (jr [qb 7 1,q1 7 0])))))))
 (.seq (jr [qr 2])
 .ret))),
 [.v 2]⟩
def wab:IFun:=⟨[0,1,4],
 (.seq (jr [q5 2])
 (.seq (jr [q0 0,q0 1,jn (.call false w6a [(.r 0),(.r 1)]),qd 2,qg 3 0,qg 3 1,jt 3 (.call false w73 [(.r 4),(.r 5)]),jt 3 (.not (.r 6)),qx 3 7,q1 2 8])
 .ret)),
 [.v 2]⟩
def wa0:IFun:=⟨[0,1,3],
 (.seq (jr [q5 2])
 (.seq (jr [q0 0,q45_ 1 1,jn (.call false w6j [(.r 0),(.r 1)]),q1 2 2])
 .ret)),
 [.v 2]⟩
def w9v:IFun:=⟨[0,1,2,3],
 (.seq (jr [js 2 (.box we0 3 (.v 0)),q5 3])
 (.seq (jr [q4 2 2,q2 1 0,q45_ 1 1,q68_ 1 2,q1 3 3])
 .ret)),
 [.v 3]⟩
def waw:IFun:=⟨[0,1,4,5,7,8,9,16],
 (.seq (jr [qc 2 0])
 (.seq (.seq (jr [q0 0,q60_ 4 0,qc 5 0])
 (.block 0 (.loop [true,true,false,false,true,true,false,false] (.seq (jr [qa 6 5 4])
 (.seq (.cond (.v 6) .skip (.exit 0))
 (.seq (.block 1 (.seq (jr [q0 5,q1 3 0])
 (.seq (jr [q0 1,q0 0,q0 3,q3 3 1 2,q36_ 3 3,js 7 (.callv false (.r 0) [(.r 4)])])
 (.cond (.v 7) (.seq (jr [q0 3,q1 2 0])
 .ret) .skip))))
 (jr [qb 5 1,q1 5 0])))))))
 (.seq (jr [js 2 (.mov (jc (-1)))])
 .ret))),
 [.v 2]⟩
def wb3:IFun:=⟨[0,2,3,9],
 (.seq (jr [q0 0,qz 0,q9 1 1,qc 1 0,q1 2 2])
 (.block 0 (.loop [true,true,true,false] (.seq (.seq (jr [q0 1,q0 2,q44_ 3 0 1])
 (.cond (.v 3) .skip (.exit 0)))
 (.seq (.block 1 (.region true [] [q0 0,q0 1,q0 0,q0 2,q0 0,q0 2,q3 1 4 5,q2 1 6,q0 0,q0 1,q3 1 8 9,q2 1 10,q3 1 0 1,q8 1 12 7,q3 1 2 3,q8 1 14 11]))
 (jr [q0 1,q7 0 1,q0 2,q9 2 1,q1 1 1,q1 2 3])))))),
 []⟩
def w9u:IFun:=⟨[0,1,2,4,5,6,7,8,13,15],
 (.seq (jr [js 2 (.box we3 2 (.v 0)),qs 3 1,q5 4])
 (.seq (jr [qh 2 2,q0 1,jn (.call false w5z [(.r 0),(.r 1)]),js 5 (.alloc t_int [(.int .i64 0)]),q6 1 5 2])
 (.seq (.seq (jr [q45_ 1 5,q74_ 8 0 0])
 (.cond (.v 8) (.seq (jr [qs 3 1,q5 4])
 .ret) .skip))
 (.seq (jr [qs 6 1])
 (.seq (.block 0 (.loop [false,false,true,false,false,true,true,false,false,false] (.seq (.seq (jr [q45_ 1 5,q71_ 9 0 0])
 (.cond (.v 9) .skip (.exit 0)))
 (.block 1 (.seq (.region true [(6,1)] [q4 1 2,q2 1 0,q4 1 2,q2 1 2,jn (.mkfn w63 [(.v 5)]),js 7 (.alloc we0 [(.int .i64 0),(.int .i64 0),(.int .i64 0)]),jn (.call false w74 [(.r 3),(.r 4)]),q3 3 1 6,q36_ 3 7,q6 3 7 8])
 (.seq (jr [q0 6,q4 1 7,q2 1 1,qy 1 2,q41_ 1 0 3,q1 6 4])
 (jr [q4 0 7,q2 1 0,q6 1 5 1])))))))
 (.seq (jr [q0 6,jn (.callm w7a [(.r 0)])])
 (.seq (jr [q0 6,q1 3 0,qr 4])
 .ret))))))),
 [.v 3,.v 4]⟩
def w9q:IFun:=⟨[0,1,2,3],
 (.seq (jr [js 2 (.box we0 3 (.v 0)),q5 3])
 (.seq (jr [q4 1 2,q2 1 0,q45_ 1 1,q68_ 1 2,q1 3 3])
 .ret)),
 [.v 3]⟩
def waq:IFun:=⟨[0,1,4],
 (.seq (jr [q5 2])
 (.seq (jr [q0 0,q0 1,jn (.call false w74 [(.r 0),(.r 1)]),jn (.bin false .geq (.r 2) (jc 0)),q1 2 3])
 .ret)),
 [.v 2]⟩
def w9p:IFun:=⟨[0,1,2,3,4,5,6,9,10,11,17],
 (.seq (jr [js 2 (.box we3 2 (.v 0)),q47_ 3 2 1,qs 4 1])
 (.seq (jr [qs 5 1])
 (.seq (.seq (jr [q4 1 3,q2 1 0,q60_ 7 1,qc 8 0])
 (.block 0 (.loop [false,false,true,false,false,true,false,true,true,false,false] (.seq (jr [qa 9 8 7])
 (.seq (.cond (.v 9) .skip (.exit 0))
 (.seq (.block 1 (.seq (jr [q0 8,js 6 (.alloc t_int [(.int .i64 0)]),q6 1 6 0])
 (.seq (jr [q4 1 2,q2 1 0,jn (.mkfn w5y [(.v 6)]),jn (.call false w6z [(.r 1),(.r 2)]),q72_ 10 3])
 (.cond (.v 10) (jr [q0 5,q45_ 1 6,qy 1 1,q41_ 1 0 2,q1 5 3]) .skip))))
 (jr [qb 8 1,q1 8 0])))))))
 (.seq (jr [q0 5,q1 4 0])
 .ret)))),
 [.v 4]⟩
def w9z:IFun:=⟨[0,1,2,4,5,6,7,8,9,10,11,12,13,15,26,39,47,53,66,79],
 (.seq (jr [q55_ 2 4 0,q38_ 3 0 0 1 0,q70_ 4 1 3])
 (.seq (.region true [(5,1)] [q4 0 2,q36_ 2 0,qh 4 2,q0 1,q70_ 5 1 3,jn (.call false w6o [(.r 2)]),jn (.call false w6d [(.r 1),(.r 5),(.r 3)]),qd 6,qm 7 0,qm 7 1,q6 2 5 8,q1 6 9])
 (.seq (.seq (jr [q0 6,js 14 (.bin false .neq (.r 0) (jc 1))])
 (.cond (.v 14) (.seq (.region true [(2,1)] [q58_ 0 0 1 0 0 1 3,qh 2 5,q6 4 3 0,q6 2 4 1])
 .ret) .skip))
 (.seq (jr [qh 4 2,jn (.call false w6c [(.r 0)]),js 7 (.alloc we7 [(.nil true 1)]),q6 1 7 1])
 (.seq (jr [q4 0 5,q2 1 0,qz 1,q51_ 1 2,q1 8 3])
 (.seq (.seq (jr [qh 2 5,q45_ 1 7,jn (.call false w5z [(.r 0),(.r 1)]),q1 9 2])
 (.seq (jr [q0 9,q46_ 15 0 0])
 (.cond (.v 15) (jr [qh 2 5,q0 9,qy 1 1,jn (.call false w61 [(.r 0),(.r 2)]),q1 8 3]) .skip)))
 (.seq (jr [q0 8,jn (.call false w78 [(.r 0),(.c (.bool false))]),qc 10 1,q1 11 1])
 (.seq (.seq (jr [q0 11,q74_ 16 0 0])
 (.cond (.v 16) (jr [q4 0 5,q2 1 0,jn (.mkfn w68 [(.v 7)]),jn (.call false w77 [(.r 1),(.r 2)]),qc 10 2,q1 11 3]) .skip))
 (.seq (.seq (jr [q0 11,q46_ 17 0 0])
 (.cond (.v 17) (.seq (.region true [] [qh 2 5,q4 0 5,q2 1 1,q0 11,q3 1 2 3,q2 1 4,jn (.call false w62 [(.r 0),(.r 5)]),qd 6,qm 7 0,qm 7 1,q1 12 8,qd 9])
 (.seq (.seq (jr [q0 12,qz 0,q71_ 18 1 60])
 (.cond (.v 18) (.seq (.region true [(2,1)] [q58_ 0 0 1 0 0 1 3,qh 2 5,q6 4 3 0,q6 2 4 1])
 .ret) .skip))
 (.seq (.region true [(4,3)] [q0 10,q0 12,jn (.build [(.int .i64 0),(.int .i64 0),(.nil true 1),(.int .i64 0)] [(0,1,(jc 2)),(1,1,(.r 0)),(2,1,(.r 1))]),qh 2 5,q6 4 3 2,q6 2 4 3])
 .ret))) .skip))
 (.seq (.seq (jr [qh 2 5,q4 0 2,q36_ 2 1,jn (.call false w5x [(.r 0),(.r 2)]),q1 13 3])
 (.seq (jr [q0 13,qz 0,q71_ 19 1 0])
 (.cond (.v 19) (.seq (.region true [(5,4)] [q0 13,jn (.iaddr 1 (.r 0) (jc 0)),q2 1 1,jn (.build [(.int .i64 0),(.int .i64 0),(.nil true 1),(.int .i64 0)] [(0,1,(jc 2)),(1,1,(jc 3)),(3,1,(.r 2))]),qh 2 5,q6 4 3 3,q6 2 4 4])
 .ret) .skip)))
 (.seq (.region true [(2,1)] [q58_ 0 0 1 0 0 1 1,qh 2 5,q6 4 3 0,q6 2 4 1])
 .ret))))))))))),
 [.cell true 4 3,.cell true 2 4]⟩
def w9l:IFun:=⟨[0,1,2,4,5,6,11],
 (.seq (jr [q55_ 2 4 0,q38_ 3 0 0 1 0,q5 4])
 (.seq (.seq (jr [qh 4 2,q0 1,jn (.call false w6g [(.r 0),(.r 1)]),q72_ 6 2])
 (.cond (.v 6) (.seq (jr [jn (.build [(.int .i64 0),(.int .i64 0),(.nil true 1),(.int .i64 0)] []),q6 4 3 0,q5 4])
 .ret) .skip))
 (.seq (jr [qh 4 2,q0 1,jn (.call false w67 [(.r 0),(.r 1)]),qd 2,qm 3 0,qm 3 1,q38_ 5 0 0 1 0,jn (.alloc we3 [(.nil false 1),(.nil true 3)]),q6 4 5 4,q8 2 7 5])
 (.seq (jr [qh 4 5,q6 4 3 0,qr 4])
 .ret)))),
 [.cell true 4 3,.v 4]⟩
def wai:IFun:=⟨[0,1,4,5,6,7,8,9,10,11,12,13,14,15,16,19,45,46,71,84],
 (.seq (jr [q5 2])
 (.seq (.seq (jr [q0 0,q0 1,js 15 (.call false w6r [(.r 0),(.r 1)])])
 (.cond (.v 15) (.seq (jr [qr 2])
 .ret) .skip))
 (.seq (jr [q0 0,jn (.call false w7s [(.r 0)]),qd 1,qm 2 0,qm 2 1,qi 3 0 3 0 0,qi 4 0 3 0 0,q6 4 3 3,q6 4 4 4])
 (.seq (jr [qh 4 3,qh 4 4,jn (.call false w5q [(.r 0),(.r 1)]),qd 2,qm 3 0,qm 3 1,qi 5 0 3 0 0,q6 4 5 4,q1 6 5])
 (.seq (jr [qh 4 3,qh 4 4,jn (.call false w7r [(.r 0),(.r 1)]),qd 2,qm 3 0,qm 3 1,qi 7 0 3 0 0,q6 4 7 4,q1 8 5])
 (.seq (.seq (jr [q0 6,q0 8,jn (.bin true .neq (.r 0) (.r 1)),qd 2,q76_ 3 4 5,q76_ 3 4 7,jf 3 (.call false w6s [(.r 4),(.r 5)]),q56_ 3 6,qp 16 3 7])
 (.cond (.v 16) (.seq (jr [q5 2])
 .ret) .skip))
 (.seq (.seq (jr [q62_ 17 6])
 (.cond (.v 17) (.seq (jr [qh 4 3,jn (.call false w5t [(.r 0),(jc 400)]),qd 1,qm 2 0,qm 2 1,q38_ 9 0 0 1 0,q6 4 9 3,q1 10 4])
 (.seq (jr [qh 4 4,jn (.call false w5t [(.r 0),(jc 400)]),qd 1,qm 2 0,qm 2 1,q38_ 11 0 0 1 0,q6 4 11 3,q1 12 4])
 (.seq (jr [qh 4 5,jn (.call false w5t [(.r 0),(jc 400)]),qd 1,qm 2 0,qm 2 1,q38_ 13 0 0 1 0,q6 4 13 3,q1 14 4])
 (.seq (.seq (jr [q0 10,q77_ 0,qd 1,q43_ 2 12,q56_ 2 3,qk 2 4,qd 5,q43_ 6 14,q56_ 6 7,qp 18 6 8])
 (.cond (.v 18) (.seq (jr [q5 2])
 .ret) .skip))
 (.seq (.seq (jr [q4 0 9,q2 1 0,q67_ 1 1,qd 2,q59_ 3 0 11,qj 3 1 4,jt 3 (.bin false .eql (.r 5) (jc 1)),qx 3 6,qd 7,q59_ 8 0 13,qj 8 1 9,jt 8 (.bin false .eql (.r 10) (jc 2)),qt 19 8 11])
 (.cond (.v 19) (.seq (jr [q5 2])
 .ret) .skip))
 (.seq (jr [q4 0 5,qf 0 0,q2 1 1,q4 0 3,qf 0 3,q2 1 4,q4 0 4,qf 0 6,q2 1 7,qq 5 8,q9 9 1,q68_ 2 10,qd 11,q59_ 12 0 5,jt 12 (.faddr 1 (.r 13)),qj 12 1 14,jt 12 (.len false (.r 15)),q59_ 12 0 3,jt 12 (.faddr 1 (.r 17)),qj 12 1 18,jt 12 (.len false (.r 19)),q59_ 12 0 4,jt 12 (.faddr 1 (.r 21)),qj 12 1 22,jt 12 (.len false (.r 23)),jt 12 (.bin false .add (.r 20) (.r 24)),jt 12 (.bin false .eql (.r 16) (.r 25)),qx 12 26,q1 2 27])
 .ret)))))) .skip))
 (.seq (jr [qr 2])
 .ret)))))))),
 [.v 2]⟩
def tbl:List (FuncId×IFun):=[(w6r,waj),(w7z,wbs),(w81,wbu),(w87,wc0),(w7y,wbr),(w82,wbv),(w80,wbt),(w7w,wbp),(w7x,wbq),(w7s,wbl),(w6p,wah),(w6f,wa7),(w64,w9w),(w65,w9x),(w5w,w9o),(w75,wax),(w70,war),(w5v,w9n),(w79,wb2),(w72,wau),(w6m,wae),(w76,waz),(w71,wat),(w6l,wad),(w66,w9y),(w6k,wac),(w5u,w9m),(w5r,w9j),(w6w,wao),(w6x,wap),(w6v,wan),(w5p,w9h),(w5o,w9g),(w7f,wb8),(w7p,wbi),(w7e,wb7),(w7i,wbb),(w7q,wbj),(w7c,wb5),(w7j,wbc),(w7h,wba),(w7g,wb9),(w7d,wb6),(w7o,wbh),(w7k,wbd),(w7l,wbe),(w7m,wbf),(w7n,wbg),(w7b,wb4),(w5s,w9k),(w69,wa1),(w5q,w9i),(w84,wbx),(w86,wbz),(w88,wc1),(w7u,wbn),(w8b,wc4),(w89,wc2),(w8a,wc3),(w7v,wbo),(w83,wbw),(w7t,wbm),(w85,wby),(w8d,wc6),(w8c,wc5),(w7r,wbk),(w6t,wal),(w6u,wam),(w6s,wak),(w6g,wa8),(w6n,waf),(w6o,wag),(w6i,waa),(w6h,wa9),(w6b,wa3),(w6e,wa6),(w73,wav),(w60,w9s),(w77,wb0),(w5z,w9r),(w6d,wa5),(w6c,wa4),(w61,w9t),(w78,wb1),(w6a,wa2),(w6j,wab),(w68,wa0),(w63,w9v),(w74,waw),(w7a,wb3),(w62,w9u),(w5y,w9q),(w6z,waq),(w5x,w9p),(w67,w9z),(w5t,w9l),(w6q,wai)]
def F(f:FuncId):Option IFun:=(tbl.find? fun p=>p.1 == f).map (·.2)
def exts:List (FuncId×(List PV→Option PV)):=[(w6y,w5m)]
def ext(f:FuncId):Option (List PV→Option PV):=(exts.find? fun p=>p.1 == f).map (·.2)
noncomputable def C:Orc:=lim F ext
@[go_sem] abbrev Wr(i:IFun)(a:List PV)(M:List Blk)(r:PV×List Blk):Prop:=W C M.length i.body ⟨start i a,M⟩ (Lv M.length i.results r)
@[go_sem] abbrev We(i:IFun)(a:List PV)(M:List Blk)(P:PV×List Blk→Prop):Prop:=W C M.length i.body ⟨start i a,M⟩ (Le' M.length i.results P)
variable {a : List PV} {M : List Blk} {r : PV × List Blk} {P : PV × List Blk → Prop}
theorem w13(h:Wr waj a M r):C w6r a M=some r:=z8g rfl rfl h
theorem w2k(h:We wbs a M P):Lw (C w7z a M) P:=z8d rfl rfl h
theorem w2m(h:We wbu a M P):Lw (C w81 a M) P:=z8d rfl rfl h
theorem w2o(h:We wc0 a M P):Lw (C w87 a M) P:=z8d rfl rfl h
theorem w20(h:Wr wc0 a M r):C w87 a M=some r:=z8g rfl rfl h
theorem w2j(h:We wbr a M P):Lw (C w7y a M) P:=z8d rfl rfl h
theorem w2n(h:We wbv a M P):Lw (C w82 a M) P:=z8d rfl rfl h
theorem w2l(h:We wbt a M P):Lw (C w80 a M) P:=z8d rfl rfl h
theorem w2h(h:We wbp a M P):Lw (C w7w a M) P:=z8d rfl rfl h
theorem w2i(h:We wbq a M P):Lw (C w7x a M) P:=z8d rfl rfl h
theorem w2g(h:We wbl a M P):Lw (C w7s a M) P:=z8d rfl rfl h
theorem w11(h:Wr wah a M r):C w6p a M=some r:=z8g rfl rfl h
theorem w0r(h:Wr wa7 a M r):C w6f a M=some r:=z8g rfl rfl h
theorem w0g(h:Wr w9w a M r):C w64 a M=some r:=z8g rfl rfl h
theorem w0h(h:Wr w9x a M r):C w65 a M=some r:=z8g rfl rfl h
theorem w08(h:Wr w9o a M r):C w5w a M=some r:=z8g rfl rfl h
theorem w1f(h:Wr wax a M r):C w75 a M=some r:=z8g rfl rfl h
theorem w1a(h:Wr war a M r):C w70 a M=some r:=z8g rfl rfl h
theorem w07(h:Wr w9n a M r):C w5v a M=some r:=z8g rfl rfl h
theorem w1j(h:Wr wb2 a M r):C w79 a M=some r:=z8g rfl rfl h
theorem w1c(h:Wr wau a M r):C w72 a M=some r:=z8g rfl rfl h
theorem w0y(h:Wr wae a M r):C w6m a M=some r:=z8g rfl rfl h
theorem w1g(h:Wr waz a M r):C w76 a M=some r:=z8g rfl rfl h
theorem w1b(h:Wr wat a M r):C w71 a M=some r:=z8g rfl rfl h
theorem w0x(h:Wr wad a M r):C w6l a M=some r:=z8g rfl rfl h
theorem w0i(h:Wr w9y a M r):C w66 a M=some r:=z8g rfl rfl h
theorem w0w(h:Wr wac a M r):C w6k a M=some r:=z8g rfl rfl h
theorem w06(h:Wr w9m a M r):C w5u a M=some r:=z8g rfl rfl h
theorem w03(h:Wr w9j a M r):C w5r a M=some r:=z8g rfl rfl h
theorem w18(h:Wr wap a M r):C w6x a M=some r:=z8g rfl rfl h
theorem w17(h:Wr wan a M r):C w6v a M=some r:=z8g rfl rfl h
theorem w01(h:Wr w9h a M r):C w5p a M=some r:=z8g rfl rfl h
theorem w00(h:Wr w9g a M r):C w5o a M=some r:=z8g rfl rfl h
theorem w1m(h:Wr wb8 a M r):C w7f a M=some r:=z8g rfl rfl h
theorem w1r(h:Wr wbi a M r):C w7p a M=some r:=z8g rfl rfl h
theorem w1l(h:Wr wb7 a M r):C w7e a M=some r:=z8g rfl rfl h
theorem w1n(h:Wr wbb a M r):C w7i a M=some r:=z8g rfl rfl h
theorem w2f(h:We wbj a M P):Lw (C w7q a M) P:=z8d rfl rfl h
theorem w28(h:We wb5 a M P):Lw (C w7c a M) P:=z8d rfl rfl h
theorem w2c(h:We wbc a M P):Lw (C w7j a M) P:=z8d rfl rfl h
theorem w2b(h:We wba a M P):Lw (C w7h a M) P:=z8d rfl rfl h
theorem w2a(h:We wb9 a M P):Lw (C w7g a M) P:=z8d rfl rfl h
theorem w29(h:We wb6 a M P):Lw (C w7d a M) P:=z8d rfl rfl h
theorem w2e(h:We wbh a M P):Lw (C w7o a M) P:=z8d rfl rfl h
theorem w1o(h:Wr wbd a M r):C w7k a M=some r:=z8g rfl rfl h
theorem w1p(h:Wr wbe a M r):C w7l a M=some r:=z8g rfl rfl h
theorem w1q(h:Wr wbf a M r):C w7m a M=some r:=z8g rfl rfl h
theorem w2d(h:We wbg a M P):Lw (C w7n a M) P:=z8d rfl rfl h
theorem w27(h:We wb4 a M P):Lw (C w7b a M) P:=z8d rfl rfl h
theorem w04(h:Wr w9k a M r):C w5s a M=some r:=z8g rfl rfl h
theorem w0l(h:Wr wa1 a M r):C w69 a M=some r:=z8g rfl rfl h
theorem w02(h:Wr w9i a M r):C w5q a M=some r:=z8g rfl rfl h
theorem w1x(h:Wr wbx a M r):C w84 a M=some r:=z8g rfl rfl h
theorem w1z(h:Wr wbz a M r):C w86 a M=some r:=z8g rfl rfl h
theorem w21(h:Wr wc1 a M r):C w88 a M=some r:=z8g rfl rfl h
theorem w1u(h:Wr wbn a M r):C w7u a M=some r:=z8g rfl rfl h
theorem w24(h:Wr wc4 a M r):C w8b a M=some r:=z8g rfl rfl h
theorem w22(h:Wr wc2 a M r):C w89 a M=some r:=z8g rfl rfl h
theorem w23(h:Wr wc3 a M r):C w8a a M=some r:=z8g rfl rfl h
theorem w1v(h:Wr wbo a M r):C w7v a M=some r:=z8g rfl rfl h
theorem w1w(h:Wr wbw a M r):C w83 a M=some r:=z8g rfl rfl h
theorem w1t(h:Wr wbm a M r):C w7t a M=some r:=z8g rfl rfl h
theorem w1y(h:Wr wby a M r):C w85 a M=some r:=z8g rfl rfl h
theorem w26(h:Wr wc6 a M r):C w8d a M=some r:=z8g rfl rfl h
theorem w25(h:Wr wc5 a M r):C w8c a M=some r:=z8g rfl rfl h
theorem w1s(h:Wr wbk a M r):C w7r a M=some r:=z8g rfl rfl h
theorem w15(h:Wr wal a M r):C w6t a M=some r:=z8g rfl rfl h
theorem w16(h:Wr wam a M r):C w6u a M=some r:=z8g rfl rfl h
theorem w14(h:Wr wak a M r):C w6s a M=some r:=z8g rfl rfl h
theorem w0s(h:Wr wa8 a M r):C w6g a M=some r:=z8g rfl rfl h
theorem w0z(h:Wr waf a M r):C w6n a M=some r:=z8g rfl rfl h
theorem w10(h:Wr wag a M r):C w6o a M=some r:=z8g rfl rfl h
theorem w0u(h:Wr waa a M r):C w6i a M=some r:=z8g rfl rfl h
theorem w0t(h:Wr wa9 a M r):C w6h a M=some r:=z8g rfl rfl h
theorem w0n(h:Wr wa3 a M r):C w6b a M=some r:=z8g rfl rfl h
theorem w0q(h:Wr wa6 a M r):C w6e a M=some r:=z8g rfl rfl h
theorem w1d(h:Wr wav a M r):C w73 a M=some r:=z8g rfl rfl h
theorem w0c(h:Wr w9s a M r):C w60 a M=some r:=z8g rfl rfl h
theorem w1h(h:Wr wb0 a M r):C w77 a M=some r:=z8g rfl rfl h
theorem w0b(h:Wr w9r a M r):C w5z a M=some r:=z8g rfl rfl h
theorem w0p(h:Wr wa5 a M r):C w6d a M=some r:=z8g rfl rfl h
theorem w0o(h:Wr wa4 a M r):C w6c a M=some r:=z8g rfl rfl h
theorem w0d(h:Wr w9t a M r):C w61 a M=some r:=z8g rfl rfl h
theorem w1i(h:Wr wb1 a M r):C w78 a M=some r:=z8g rfl rfl h
theorem w0m(h:Wr wa2 a M r):C w6a a M=some r:=z8g rfl rfl h
theorem w0v(h:Wr wab a M r):C w6j a M=some r:=z8g rfl rfl h
theorem w0k(h:Wr wa0 a M r):C w68 a M=some r:=z8g rfl rfl h
theorem w0f(h:Wr w9v a M r):C w63 a M=some r:=z8g rfl rfl h
theorem w1e(h:Wr waw a M r):C w74 a M=some r:=z8g rfl rfl h
theorem w1k(h:Wr wb3 a M r):C w7a a M=some r:=z8g rfl rfl h
theorem w0e(h:Wr w9u a M r):C w62 a M=some r:=z8g rfl rfl h
theorem w0a(h:Wr w9q a M r):C w5y a M=some r:=z8g rfl rfl h
theorem w19(h:Wr waq a M r):C w6z a M=some r:=z8g rfl rfl h
theorem w09(h:Wr w9p a M r):C w5x a M=some r:=z8g rfl rfl h
theorem w0j(h:Wr w9z a M r):C w67 a M=some r:=z8g rfl rfl h
theorem w05(h:Wr w9l a M r):C w5t a M=some r:=z8g rfl rfl h
theorem w12(h:Wr wai a M r):C w6q a M=some r:=z8g rfl rfl h
theorem wcf{es:List PV}(h:es.length≤68719476736):C w6y [.sl true 1 es] []=some (.un t_int true 1 es,[]):=zqn (e:=w5m) rfl (by simp [w5m,zfv,h])
end Go.Proofs.Ytbaclnecajkknaa.Pi

