/- The forms of the functions that the law reaches, and their oracle. Definitions alone; no condition. -/
import Derived.Test.YtbaclnecajkknaaGreatPiExt
namespace Go.Proofs.YtbaclnecajkknaaGreat.Pi
open Go
set_option linter.all false
abbrev t_int:TypeId:=3
abbrev wl5:TypeId:=4
abbrev wl9:TypeId:=26
abbrev wl8:TypeId:=28
abbrev wle:TypeId:=31
abbrev wlc:TypeId:=33
abbrev wl7:TypeId:=38
abbrev wla:TypeId:=69
abbrev wlg:TypeId:=79
abbrev wl6:TypeId:=108
abbrev wld:TypeId:=112
abbrev wlb:TypeId:=119
abbrev wlf:TypeId:=220
abbrev wa4:FuncId:=7
abbrev wbv:FuncId:=174
abbrev wbx:FuncId:=91
abbrev wc4:FuncId:=113
abbrev wbu:FuncId:=122
abbrev wby:FuncId:=123
abbrev wbw:FuncId:=108
abbrev wbr:FuncId:=124
abbrev wbt:FuncId:=54
abbrev wbs:FuncId:=55
abbrev wbj:FuncId:=8
abbrev wa2:FuncId:=69
abbrev w9o:FuncId:=237
abbrev w97:FuncId:=83
abbrev w98:FuncId:=169
abbrev w8y:FuncId:=168
abbrev war:FuncId:=236
abbrev waj:FuncId:=167
abbrev w8x:FuncId:=82
abbrev waw:FuncId:=162
abbrev wan:FuncId:=77
abbrev w9x:FuncId:=255
abbrev wat:FuncId:=238
abbrev wak:FuncId:=172
abbrev w9w:FuncId:=217
abbrev w9a:FuncId:=218
abbrev w9v:FuncId:=148
abbrev w8v:FuncId:=67
abbrev w9p:FuncId:=56
abbrev w9z:FuncId:=206
abbrev wa0:FuncId:=125
abbrev wag:FuncId:=71
abbrev w9r:FuncId:=173
abbrev w9q:FuncId:=88
abbrev w9k:FuncId:=151
abbrev w9n:FuncId:=90
abbrev wap:FuncId:=179
abbrev w93:FuncId:=207
abbrev wau:FuncId:=130
abbrev w92:FuncId:=127
abbrev w9m:FuncId:=107
abbrev w9l:FuncId:=126
abbrev w94:FuncId:=128
abbrev wav:FuncId:=129
abbrev w9i:FuncId:=100
abbrev w9t:FuncId:=132
abbrev w9g:FuncId:=131
abbrev w96:FuncId:=209
abbrev waq:FuncId:=208
abbrev wb0:FuncId:=210
abbrev w95:FuncId:=133
abbrev w91:FuncId:=212
abbrev wai:FuncId:=211
abbrev w90:FuncId:=134
abbrev w9f:FuncId:=57
abbrev w8p:FuncId:=9
abbrev wc0:FuncId:=136
abbrev wc3:FuncId:=170
abbrev wc5:FuncId:=171
abbrev wbm:FuncId:=84
abbrev wcc:FuncId:=243
abbrev wca:FuncId:=244
abbrev wcb:FuncId:=245
abbrev wbn:FuncId:=213
abbrev wbz:FuncId:=112
abbrev wbk:FuncId:=135
abbrev wcj:FuncId:=58
abbrev wcd:FuncId:=137
abbrev wcl:FuncId:=59
abbrev wc2:FuncId:=66
abbrev wc7:FuncId:=214
abbrev wc8:FuncId:=138
abbrev wc9:FuncId:=139
abbrev wbo:FuncId:=85
abbrev wbl:FuncId:=101
abbrev wc6:FuncId:=142
abbrev wcg:FuncId:=64
abbrev wcf:FuncId:=60
abbrev wch:FuncId:=140
abbrev wci:FuncId:=141
abbrev wbq:FuncId:=102
abbrev wce:FuncId:=143
abbrev wck:FuncId:=61
abbrev wbi:FuncId:=10
abbrev wae:FuncId:=263
abbrev waf:FuncId:=264
abbrev wad:FuncId:=246
abbrev waz:FuncId:=215
abbrev w9j:FuncId:=144
abbrev w8i:FuncId:=234
abbrev w8h:FuncId:=165
abbrev wah:FuncId:=79
abbrev w9c:FuncId:=146
abbrev wab:FuncId:=232
abbrev wac:FuncId:=233
abbrev waa:FuncId:=164
abbrev wb5:FuncId:=247
abbrev wbf:FuncId:=265
abbrev wb4:FuncId:=248
abbrev wb8:FuncId:=259
abbrev wbg:FuncId:=260
abbrev wb2:FuncId:=249
abbrev wb9:FuncId:=269
abbrev wb7:FuncId:=267
abbrev wb6:FuncId:=266
abbrev wb3:FuncId:=250
abbrev wbe:FuncId:=251
abbrev wba:FuncId:=252
abbrev wbc:FuncId:=253
abbrev wbb:FuncId:=254
abbrev wbd:FuncId:=216
abbrev wb1:FuncId:=145
abbrev w9b:FuncId:=62
abbrev w8k:FuncId:=11
abbrev wcm:FuncId:=63
abbrev wbp:FuncId:=147
abbrev wc1:FuncId:=65
abbrev wbh:FuncId:=12
abbrev wa7:FuncId:=30
abbrev wa9:FuncId:=13
abbrev wa8:FuncId:=22
abbrev wa6:FuncId:=14
abbrev wax:FuncId:=219
abbrev w8w:FuncId:=97
abbrev w8n:FuncId:=149
abbrev w8m:FuncId:=220
abbrev w8l:FuncId:=150
abbrev wam:FuncId:=152
abbrev w9e:FuncId:=153
abbrev wal:FuncId:=98
abbrev w9d:FuncId:=68
abbrev w8o:FuncId:=15
abbrev wa5:FuncId:=17
abbrev wao:FuncId:=70
abbrev w8r:FuncId:=16
abbrev w9s:FuncId:=86
abbrev w8s:FuncId:=40
abbrev wa1:FuncId:=76
abbrev w8q:FuncId:=154
abbrev w99:FuncId:=93
abbrev w9u:FuncId:=87
abbrev w9h:FuncId:=89
abbrev w8t:FuncId:=26
abbrev w8u:FuncId:=155
abbrev w8j:FuncId:=156
abbrev w9y:FuncId:=72
abbrev w8z:FuncId:=18
abbrev wa3:FuncId:=3
def w8f:List PV->Option PV:=zfv t_int true 1
@[go_sem] abbrev jn(o:IOp):IOper:=⟨none,o,none⟩
@[go_sem] abbrev js(k:Nat)(o:IOp):IOper:=⟨some k,o,none⟩
@[go_sem] abbrev jt(j:Nat)(o:IOp):IOper:=⟨none,o,some (j,true)⟩
@[go_sem] abbrev jf(j:Nat)(o:IOp):IOper:=⟨none,o,some (j,false)⟩
@[go_sem] abbrev jr(l:List IOper):ICode:=.region false [] l
@[go_sem] abbrev jc(n:Int):Opd:=.c (.int .i64 n)
@[go_sem] abbrev q0(a:Nat):IOper:=jn (.mov (.v a))
@[go_sem] abbrev q1(a b:Nat):IOper:=js a (.mov (.r b))
@[go_sem] abbrev q2(a b:Nat):IOper:=jn (.load false a (.r b))
@[go_sem] abbrev q3(a b c:Nat):IOper:=jn (.iaddr a (.r b) (.r c))
@[go_sem] abbrev q4(a:Nat):IOper:=js a (.mov (.c (.bool false)))
@[go_sem] abbrev q5(a b:Nat):IOper:=jn (.faddr a (.v b))
@[go_sem] abbrev q6(a b c:Nat):IOper:=js a (.bin false .lss (.v b) (.v c))
@[go_sem] abbrev q7(a:Nat)(b:Int):IOper:=js a (.mov (jc b))
@[go_sem] abbrev q8(a:Nat)(b:Int):IOper:=jn (.bin false .add (.v a) (jc b))
@[go_sem] abbrev q9(a b:Nat):IOper:=jn (.load true a (.v b))
@[go_sem] abbrev qa(a:Nat):IOper:=jn (.mov (.r a))
@[go_sem] abbrev qb(a b c:Nat):IOper:=jn (.store a (.v b) (.r c))
@[go_sem] abbrev qc(a:Nat)(b:Int):IOper:=jn (.bin false .add (.r a) (jc b))
@[go_sem] abbrev qd(a b c:Nat):IOper:=jn (.store a (.r b) (.r c))
@[go_sem] abbrev qe(a b:Nat):IOper:=jn (.extract (.r a) b)
@[go_sem] abbrev qf(a b:Nat):IOper:=jt a (.mov (.v b))
@[go_sem] abbrev qg(a b c:Nat):IOper:=jf a (.load false b (.r c))
@[go_sem] abbrev qh(a:Nat)(b:Int):IOper:=jn (.bin false .sub (.r a) (jc b))
@[go_sem] abbrev qi(a b c:Nat):IOper:=jt a (.load false b (.r c))
@[go_sem] abbrev qj(a b:Nat):IOper:=jn (.pick (.r a) (.c (.bool true)) (.r b))
@[go_sem] abbrev qk(a b c:Nat):IOper:=jn (.iaddr a (.v b) (.v c))
@[go_sem] abbrev ql(a:Nat):IOper:=js a (.mov (.c (.bool true)))
@[go_sem] abbrev qm(a:Nat):IOper:=jn (.len false (.r a))
@[go_sem] abbrev qn(a b:Nat):IOper:=js a (.nilrow t_int true b)
@[go_sem] abbrev qo(a b:Nat):IOper:=js a (.len false (.v b))
@[go_sem] abbrev qp(a b:Nat):IOper:=jn (.pick (.r a) (.r b) (.c (.bool false)))
@[go_sem] abbrev qq(a b c:Nat):IOper:=js a (.pick (.r b) (.r c) (.c (.bool false)))
@[go_sem] abbrev qr(a b c:Nat):IOper:=js a (.pick (.r b) (.c (.bool true)) (.r c))
@[go_sem] abbrev qs(a b c:Nat):IOper:=jf a (.faddr b (.v c))
@[go_sem] abbrev qt(a b:Nat):IOper:=jn (.bslice false t_int true a [(.r b)])
@[go_sem] abbrev qu(a b:Nat):IOper:=jn (.faddr a (.r b))
@[go_sem] abbrev qv(a b c d:Nat):IOper:=jt a (.iaddr b (.r c) (.r d))
@[go_sem] abbrev qw(a b:Nat):IOper:=jn (.bin false .add (.r a) (.r b))
@[go_sem] abbrev qx(a:Nat)(b c:Int)(d:Nat)(e:Int):IOper:=js a (.alloc wlc [(.int .i64 b),(.int .i64 c),(.nil true d),(.int .i64 e)])
@[go_sem] abbrev qy(a b:Nat):IOper:=jf a (.mov (.v b))
@[go_sem] abbrev qz(a b:Nat):IOper:=jn (.load true a (.r b))
@[go_sem] abbrev q36_(a b c:Nat):IOper:=js a (.alloc wla [(.nil false b),(.nil true c)])
@[go_sem] abbrev q37_(a b c:Nat):IOper:=js a (.load false b (.r c))
@[go_sem] abbrev q38_(a b c:Nat):IOper:=jn (.append t_int true a (.r b) (.r c))
@[go_sem] abbrev q39_(a b c d:Nat):IOper:=js a (.alloc wl7 [(.nil false b),(.nil true c),(.nil true d)])
@[go_sem] abbrev q40_(a:Nat):IOper:=jn (.ncheck (.r a))
@[go_sem] abbrev q41_(a b c:Nat):IOper:=js a (.bin false .lss (.r b) (.r c))
@[go_sem] abbrev q42_(a:Nat)(b:Int):IOper:=jn (.bin false .shr (.r a) (.c (.int .u64 b)))
@[go_sem] abbrev q43_(a b:Int)(c:Nat)(d:Int)(e f:Nat)(g:Int):IOper:=jn (.build [(.int .i64 a),(.int .i64 b),(.nil true c),(.int .i64 d)] [(e,f,(jc g))])
@[go_sem] abbrev q44_(a b c:Nat):IOper:=js a (.box wl9 b (.v c))
@[go_sem] abbrev q45_(a b c d:Nat):IOper:=js a (.alloc wlb [(.nil true b),(.nil true c),(.nil true d)])
@[go_sem] abbrev q46_(a:Nat)(b c d:Int):IOper:=js a (.alloc wl6 [(.int .i64 b),(.int .i64 c),(.int .i64 d)])
@[go_sem] abbrev q47_(a b c:Nat):IOper:=jt a (.faddr b (.v c))
@[go_sem] abbrev q48_(a b:Nat):IOper:=js a (.mov (.v b))
@[go_sem] abbrev q49_(a b:Nat):IOper:=jn (.mk wl5 true a (.bool false) (.r b))
@[go_sem] abbrev q50_(a b:Nat)(c:Int):IOper:=jt a (.bin false .lss (.r b) (jc c))
@[go_sem] abbrev q51_(a b c d e:Nat):IOper:=jn (.callm wbu [(.r a),(.r b),(.r c),(.r d),(.r e)])
@[go_sem] abbrev q52_(a b:Nat):IOper:=jn (.store a (.r b) (.c (.bool true)))
@[go_sem] abbrev q53_(a b:Nat):IOper:=jn (.bin false .sub (.r a) (.r b))
@[go_sem] abbrev q54_(a b c d:Nat):IOper:=jt a (.callv false (.r b) [(.r c),(.r d)])
@[go_sem] abbrev q55_(a:Nat)(b:Int)(c:Nat)(d e:Int):IOper:=js a (.alloc wl8 [(.int .i64 b),(.nil false c),(.int .i64 d),(.int .i64 e)])
@[go_sem] abbrev q56_(a b c:Nat):IOper:=js a (.box wl8 b (.v c))
@[go_sem] abbrev q57_(a b:Nat)(c:Int):IOper:=js a (.bin false .lss (.r b) (jc c))
@[go_sem] abbrev q58_(a b:Nat)(c:Int):IOper:=js a (.bin false .geq (.r b) (jc c))
@[go_sem] abbrev q59_(a b:Nat):IOper:=js a (.len false (.r b))
@[go_sem] abbrev q60_(a b:Nat):IOper:=js a (.not (.r b))
@[go_sem] abbrev q61_(a b:Nat):IOper:=jn (.bslice false wle false a [(.r b)])
@[go_sem] abbrev q62_(a b:Nat):IOper:=jf a (.not (.r b))
@[go_sem] abbrev q63_(a:Nat)(b:Int):IOper:=jn (.bin false .eql (.v a) (jc b))
@[go_sem] abbrev q64_(a b:Nat):IOper:=jn (.load false a (.v b))
@[go_sem] abbrev q65_(a b:Nat)(c:Int):IOper:=js a (.bin false .gtr (.r b) (jc c))
@[go_sem] abbrev q66_(a b c:Nat):IOper:=js a (.bin false .neq (.r b) (.r c))
@[go_sem] abbrev q67_(a b c:Nat):IOper:=jt a (.bin false .eql (.r b) (.r c))
@[go_sem] abbrev q68_(a b:Nat)(c:Int):IOper:=jt a (.bin false .sub (.r b) (jc c))
@[go_sem] abbrev q69_(a b:Nat)(c:Int):IOper:=jf a (.bin false .sub (.r b) (jc c))
@[go_sem] abbrev q70_(a b:Nat):IOper:=jn (.callm wbx [(.r a),(.r b)])
@[go_sem] abbrev q71_(a b c d:Nat):IOper:=jf a (.iaddr b (.r c) (.r d))
@[go_sem] abbrev q72_(a b:Nat):IOper:=jf a (.len false (.r b))
@[go_sem] abbrev q73_(a b:Nat):IOper:=jn (.bin false .eql (.r a) (.r b))
@[go_sem] abbrev q74_(a b c:Nat):IOper:=jn (.append wle false a (.r b) (.r c))
@[go_sem] abbrev q75_(a:Nat)(b:Int)(c:Nat):IOper:=jn (.mk t_int true a (.int .i64 b) (.r c))
@[go_sem] abbrev q76_(a b c:Nat):IOper:=jn (.build [(.nil false a),(.nil true b),(.nil true c)] [])
@[go_sem] abbrev q77_(a b c:Nat):IOper:=js a (.box wla b (.v c))
@[go_sem] abbrev q78_(a b c:Nat):IOper:=jf a (.bin false .neq (.r b) (.r c))
@[go_sem] abbrev q79_(a:Nat):IOper:=jn (.not (.r a))
@[go_sem] abbrev q80_(a:Nat)(b:Int):IOper:=jn (.bin false .eql (.r a) (jc b))
@[go_sem] abbrev q81_(a:Nat)(b:Int):IOper:=jn (.bin false .geq (.r a) (jc b))
@[go_sem] abbrev q82_(a:Nat)(b:Int):IOper:=jn (.bin false .quo (.r a) (jc b))
@[go_sem] abbrev q83_(a b:Nat):IOper:=jn (.build [(.nil false a),(.nil true b)] [])
@[go_sem] abbrev q84_(a:Nat):IOper:=jn (.call false wag [(.r a)])
@[go_sem] abbrev q85_(a b c:Nat):IOper:=jf a (.load true b (.v c))
@[go_sem] abbrev q86_(a:Nat):IOper:=js a (.mov (jc (-1)))
@[go_sem] abbrev q87_(a b:Nat)(c:Int):IOper:=js a (.bin false .eql (.r b) (jc c))
@[go_sem] abbrev q88_(a:Nat):IOper:=jn (.conv .u64 (.r a))
@[go_sem] abbrev q89_(a:Nat)(b:Int):IOper:=jn (.bin false .mul (.r a) (jc b))
@[go_sem] abbrev q90_(a b:Nat):IOper:=jn (.bin false .mul (.r a) (.r b))
@[go_sem] abbrev q91_(a b:Nat):IOper:=jn (.bin false .leq (.r a) (.r b))
@[go_sem] abbrev q92_(a b:Nat):IOper:=jt a (.not (.r b))
@[go_sem] abbrev q93_(a b:Nat):IOper:=js a (.nilrow wl5 true b)
@[go_sem] abbrev q94_(a:Nat)(b:Int):IOper:=jn (.bin false .and (.r a) (.c (.int .u64 b)))
@[go_sem] abbrev q95_(a b:Nat):IOper:=jn (.call false w92 [(.r a),(.r b)])
@[go_sem] abbrev q96_(a b:Nat):IOper:=jt a (.len false (.r b))
@[go_sem] abbrev q97_(a b:Nat)(c:Int):IOper:=jn (.store a (.r b) (jc c))
@[go_sem] abbrev q98_(a b:Nat)(c:Int):IOper:=jf a (.bin false .gtr (.r b) (jc c))
@[go_sem] abbrev q99_(a b c:Nat):IOper:=js a (.bin false .geq (.r b) (.r c))
@[go_sem] abbrev q100_(a b:Nat)(c:Int):IOper:=js a (.bin false .neq (.r b) (jc c))
@[go_sem] abbrev q101_(a b c:Nat):IOper:=js a (.bin false .gtr (.r b) (.r c))
@[go_sem] abbrev q102_(a b:Nat)(c:Int):IOper:=jt a (.bin false .eql (.r b) (jc c))
@[go_sem] abbrev q103_(a:Nat)(b:Int):IOper:=js a (.mov (.c (.int .u64 b)))
def wg2:IFun:=⟨[0,1,4],
(.seq (jr [q4 2])
(.seq (jr [q0 0,qm 0,jn (.bin false .gtr (.r 1) (jc 1048576)),qa 2,qy 3 1,q72_ 3 4,qy 3 0,q72_ 3 6,jf 3 (.bin false .sub (jc 1048576) (.r 7)),jf 3 (.bin false .gtr (.r 5) (.r 8)),qj 3 9,q1 2 10])
.ret)),
[.v 2]⟩
def whr:IFun:=⟨[0,2,3,13,53],
(.seq (jr [q7 1 0])
(.seq (jr [q7 2 0])
(.seq (.seq (.region true [] [q0 0,q40_ 0,qu 1 1,q2 1 2,q0 0,q40_ 4,qu 0 5,q2 1 6,qm 7,q41_ 3 3 8])
(.cond (.v 3) (.region true [] [q0 0,q40_ 0,qu 0 1,q2 1 2,q0 0,q40_ 4,qu 1 5,q2 1 6,q3 1 3 7,q2 1 8,jn (.conv .i64 (.r 9)),q1 2 10]) .skip))
(.seq (jr [q0 0,q40_ 0,qu 1 1,q2 1 2,qc 3 1,q40_ 0,qu 1 5,qd 1 6 4])
(.seq (jr [q0 0,q0 0,q40_ 1,qu 2 2,q2 1 3,jn (.bin false .mul (.r 4) (.c (.int .u64 6364136223846793005))),q0 2,q88_ 6,qw 5 7,jn (.bin false .add (.r 8) (.c (.int .u64 1442695040888963407))),q40_ 0,qu 2 10,qd 1 11 9])
(.seq (.seq (.region true [] [q0 0,q40_ 0,qu 1 1,q2 1 2,q0 0,q40_ 4,qu 0 5,q2 1 6,qm 7,js 4 (.bin false .leq (.r 3) (.r 8))])
(.cond (.v 4) (.seq (jr [q0 2,q1 1 0])
.ret) .skip))
(.seq (jr [q0 0,q40_ 0,qu 2 1,q2 1 2,q42_ 3 40,q94_ 4 255,jn (.conv .i64 (.r 5)),q1 1 6])
.ret))))))),
[.v 1]⟩
def wht:IFun:=⟨[0,1,4,5,7,11],
(.seq (jr [q7 2 0])
(.seq (.seq (jr [q0 1,js 4 (.bin false .leq (.r 0) (jc 1))])
(.cond (.v 4) (.seq (jr [q7 2 0])
.ret) .skip))
(.seq (jr [q0 0,jn (.callm wbv [(.r 0)]),q1 3 1])
(.seq (.seq (jr [q0 1,q65_ 5 0 200])
(.cond (.v 5) (jr [q0 3,q89_ 0 256,q0 0,jn (.callm wbv [(.r 2)]),qw 1 3,q1 3 4]) .skip))
(.seq (jr [q0 3,q0 1,jn (.bin false .rem (.r 0) (.r 1)),q1 2 2])
.ret))))),
[.v 2]⟩
def wi1:IFun:=⟨[0,1,4,5,6,18,32],
(.seq (jr [qn 2 1])
(.seq (jr [q7 3 0])
(.seq (.block 0 (.loop [true,true,false,true,false,false,false] (.seq (.seq (jr [q0 3,q0 0,qm 1,jn (.bin false .lss (.r 0) (.r 2)),qa 3,qf 4 0,qf 4 3,qv 4 1 5 6,qi 4 1 7,qf 4 1,jt 4 (.bin false .lss (.r 8) (.r 9)),qq 5 4 10])
(.cond (.v 5) .skip (.exit 0)))
(.block 1 (jr [q0 3,qc 0 1,q1 3 1])))))
(.seq (.seq (jr [q0 3,q0 0,qm 1,jn (.bin false .lss (.r 0) (.r 2)),qa 3,qf 4 0,qf 4 3,qv 4 1 5 6,qi 4 1 7,qf 4 1,q67_ 4 8 9,qq 6 4 10])
(.cond (.v 6) (.seq (jr [q0 0,q1 2 0])
.ret) .skip))
(.seq (jr [jn (.bslice false t_int true 1 []),q0 0,q0 3,jn (.slice 1 (.r 1) none (some (.r 2))),q38_ 1 0 3,q1 4 4])
(.seq (jr [q0 4,q0 1,qt 1 1,q38_ 1 0 2,q1 4 3])
(.seq (jr [q0 4,q0 0,q0 3,jn (.slice 1 (.r 1) (some (.r 2)) none),q38_ 1 0 3,q1 2 4])
.ret))))))),
[.v 2]⟩
def whq:IFun:=⟨[0,1,2,3,4,10,27,47,91,115,131],
(.seq (.seq (jr [q0 4,q80_ 0 0,qa 1,qy 2 1,jf 2 (.ncheck (.r 3)),jf 2 (.faddr 0 (.r 4)),qg 2 1 5,q98_ 2 6 9,qj 2 7,qa 8,qy 9 1,jf 9 (.ncheck (.r 10)),jf 9 (.faddr 1 (.r 11)),qg 9 1 12,q72_ 9 13,q98_ 9 14 12,qr 6 9 15])
(.cond (.v 6) (.seq (jr [q0 1,q0 1,q40_ 1,qu 1 2,q2 1 3,q0 2,qt 1 5,q0 3,qt 1 7,jn (.build [(.nil true 1),(.nil true 1),(.nil true 1)] [(0,1,(.r 6)),(1,1,(.r 8))]),jn (.bslice false wlb false 3 [(.r 9)]),jn (.append wlb false 3 (.r 4) (.r 10)),q40_ 0,qu 1 12,qd 1 13 11])
.ret) .skip))
(.seq (jr [q0 1,q40_ 0,qu 0 1,q2 1 2,q1 5 3])
(.seq (jr [q0 0,js 7 (.callm wbx [(.r 0),(jc 5)])])
(.block 0 (.seq (.seq (jr [q63_ 7 0,q1 8 0])
(.cond (.v 8) .skip (jr [q63_ 7 1,q1 8 0])))
(.cond (.v 8) (.seq (jr [q0 1,q40_ 0,qu 0 1,q2 1 2,qc 3 1,q40_ 0,qu 0 5,qd 1 6 4])
(.seq (jr [q0 0,q0 1,q0 2,q0 5,q0 4,qh 4 1,q51_ 0 1 2 3 5])
(jr [q0 0,q0 1,q0 5,q0 3,q0 4,qh 4 1,q51_ 0 1 2 3 5]))) (.seq (jr [q63_ 7 2,q1 9 0])
(.cond (.v 9) (.seq (jr [q0 0,q0 1,q0 2,q0 3,q0 4,qh 4 1,q51_ 0 1 2 3 5])
(jr [q0 0,q0 1,q0 2,q0 3,q0 4,qh 4 1,q51_ 0 1 2 3 5])) (.seq (jr [q63_ 7 3,q1 10 0])
(.cond (.v 10) (.seq (jr [q0 1,q40_ 0,qu 0 1,q2 1 2,qc 3 4,q40_ 0,qu 0 5,qd 1 6 4])
(.seq (.region true [(18,4),(20,4)] [q0 1,q0 1,q40_ 1,qu 1 2,q2 1 3,q0 2,jn (.bslice true t_int true 1 [(.r 5)]),q0 5,q0 5,qc 8 1,jn (.bslice true t_int true 1 [(.r 7),(.r 9)]),jn (.build [(.nil true 1),(.nil true 1),(.nil true 1)] [(0,1,(.r 6)),(1,1,(.r 10))]),q0 5,qc 12 2,q0 5,qc 14 3,jn (.bslice true t_int true 1 [(.r 13),(.r 15)]),q0 3,jn (.callm wc4 [(.c (.nil true 1)),(.r 17)]),jn (.build [(.nil true 1),(.nil true 1),(.nil true 1)] [(0,1,(.r 16)),(1,1,(.r 18))]),jn (.bslice false wlb false 3 [(.r 11),(.r 19)]),jn (.append wlb false 3 (.r 4) (.r 20)),q40_ 0,qu 1 22,qd 1 23 21])
(.seq (jr [q0 0,q0 1,q0 5,q0 5,qc 3 2,q0 4,qh 5 1,q51_ 0 1 2 4 6])
(jr [q0 0,q0 1,q0 5,qc 2 1,q0 5,qc 4 3,q0 4,qh 6 1,q51_ 0 1 3 5 7])))) (.seq (jr [q0 1,q40_ 0,qu 0 1,q2 1 2,qc 3 2,q40_ 0,qu 0 5,qd 1 6 4])
(.seq (jr [q0 1,q0 1,q40_ 1,qu 1 2,q2 1 3,q0 2,qt 1 5,q0 5,qt 1 7,jn (.build [(.nil true 1),(.nil true 1),(.nil true 1)] [(0,1,(.r 6)),(1,1,(.r 8))]),q0 5,qc 10 1,qt 1 11,q0 3,qt 1 13,jn (.build [(.nil true 1),(.nil true 1),(.nil true 1)] [(0,1,(.r 12)),(1,1,(.r 14))]),jn (.bslice false wlb false 3 [(.r 9),(.r 15)]),jn (.append wlb false 3 (.r 4) (.r 16)),q40_ 0,qu 1 18,qd 1 19 17])
(.seq (jr [q0 0,q0 1,q0 5,q0 5,qc 3 1,q0 4,qh 5 1,q51_ 0 1 2 4 6])
(jr [q0 0,q0 1,q0 5,qc 2 1,q0 5,q0 4,qh 5 1,q51_ 0 1 3 4 6])))))))))))))),
[]⟩
def whu:IFun:=⟨[0,1,2,3,8,9,10,20],
(.seq (jr [qn 4 1])
(.seq (jr [qn 5 1])
(.seq (.seq (jr [q0 2,q0 0,q0 3,q0 2,q53_ 2 3,qc 4 1,q70_ 1 5,qw 0 6,q1 6 7])
(.block 0 (.loop [true,true,false,false,false,true,true,false] (.seq (.seq (jr [q0 6,q65_ 7 0 0])
(.cond (.v 7) .skip (.exit 0)))
(.seq (.block 1 (jr [q0 5,q0 0,q0 1,q70_ 1 2,jn (.callm wc4 [(.r 0),(.r 3)]),q1 5 4]))
(jr [q0 6,qh 0 1,q1 6 1]))))))
(.seq (jr [q0 5,q1 4 0])
.ret)))),
[.v 4]⟩
def whs:IFun:=⟨[0,1,4],
(.seq (jr [q4 2])
(.seq (jr [q0 0,q0 1,q70_ 0 1,q80_ 2 0,q1 2 3])
.ret)),
[.v 2]⟩
def whm:IFun:=⟨[0,1,4],
(.seq (jr [q7 2 0])
(.seq (jr [q0 1,q0 0,q0 1,qm 2,q70_ 1 3,q3 1 0 4,q2 1 5,q1 2 6])
.ret)),
[.v 2]⟩
def whp:IFun:=⟨[0,1,4,5,6,7,23,24,46,67,88,90,103],
(.seq (jr [q55_ 2 0 3 0 0])
(.seq (jr [jn (.build [(.int .i64 0),(.nil false 3)] [(0,1,(jc 2))]),js 3 (.alloc wl9 [(.int .i64 0),(.nil false 3)]),qb 2 3 0])
(.seq (jr [q0 0,q0 0,jn (.callm wbx [(.r 1),(jc 3)]),jn (.bin false .add (jc 1) (.r 2)),jn (.callm wbu [(.r 0),(.v 3),(jc 0),(jc 1),(.r 3)])])
(.seq (jr [q9 2 3,jn (.build [(.int .i64 0),(.nil false 3),(.int .i64 0),(.int .i64 0)] [(0,2,(.r 0)),(2,1,(jc 0)),(3,1,(jc 1))]),q55_ 4 0 3 0 0,qb 4 4 1])
(.seq (jr [q0 0,q5 0 4,qu 1 1,q2 1 2,qm 3,q70_ 0 4,q1 5 5])
(.seq (.seq (jr [q0 0,js 6 (.callm wbx [(.r 0),(jc 9)])])
(.block 0 (.seq (jr [q63_ 6 0,q1 7 0])
(.cond (.v 7) (.region true [(11,2),(11,10),(13,2),(16,2)] [q5 0 4,qu 1 0,q2 1 1,q0 0,q5 0 4,qu 0 4,q2 1 5,q0 0,q5 0 4,qu 0 8,q2 1 9,q70_ 3 6,jn (.bslice true t_int true 1 [(.r 11)]),q70_ 7 10,jn (.bslice true t_int true 1 [(.r 13)]),jn (.build [(.nil true 1),(.nil true 1),(.nil true 1)] [(0,1,(.r 12)),(1,1,(.r 14))]),jn (.bslice false wlb false 3 [(.r 15)]),jn (.append wlb false 3 (.r 2) (.r 16)),q5 0 4,qu 1 18,qd 1 19 17]) (.seq (jr [q63_ 6 1,q1 8 0])
(.cond (.v 8) (.region true [(15,2),(15,6),(15,10),(16,2)] [q5 0 4,qu 1 0,q2 1 1,q0 5,q5 0 4,qu 1 4,q2 1 5,q0 5,q3 3 6 7,qu 1 8,q2 1 9,q0 0,q5 0 4,qu 0 12,q2 1 13,q70_ 11 14,jn (.callm wc4 [(.r 10),(.r 15)]),q3 3 2 3,qu 1 17,qd 1 18 16]) (.seq (jr [q63_ 6 2,q1 9 0])
(.cond (.v 9) (.region true [(15,2),(15,6),(15,10),(16,2)] [q5 0 4,qu 1 0,q2 1 1,q0 5,q5 0 4,qu 1 4,q2 1 5,q0 5,q3 3 6 7,qu 0 8,q2 1 9,q0 0,q5 0 4,qu 0 12,q2 1 13,q70_ 11 14,jn (.callm wc4 [(.r 10),(.r 15)]),q3 3 2 3,qu 0 17,qd 1 18 16]) (.seq (jr [q63_ 6 3,q1 10 0])
(.cond (.v 10) (.seq (jr [q48_ 11 1])
(.cond (.v 11) (.region true [(8,2)] [q5 0 4,qu 1 0,q2 1 1,q0 5,q0 0,q5 0 4,qu 0 5,q2 1 6,jn (.callm wby [(.r 4),(.r 7),(jc 1),(jc 2)]),q3 3 2 3,qu 2 9,qd 1 10 8]) .skip)) .skip))))))))))
(.seq (.seq (jr [q0 0,js 12 (.callm wbw [(.r 0),(jc 30)])])
(.cond (.v 12) (jr [q0 0,jn (.bslice false t_int true 1 [(jc 0),(jc (-1)),(jc 2),(jc 17)]),jn (.callm wbr [(.r 0),(.r 1)]),q5 3 4,qd 1 3 2]) .skip))
(.seq (jr [q9 4 4,qb 4 2 0])
.ret)))))))),
[.cell true 4 2]⟩
def whn:IFun:=⟨[0,2],
(.seq (jr [q7 1 0])
(.seq (jr [q0 0,jn (.bslice false t_int true 1 [(jc 1),(jc 5),(jc 20),(jc 100),(jc 100),(jc 400),(jc 401),(jc 0)]),jn (.callm wbr [(.r 0),(.r 1)]),q1 1 2])
.ret)),
[.v 1]⟩
def whe:IFun:=⟨[0,2,3,4,5],
(.seq (jr [q55_ 1 0 3 0 0,q7 2 0])
(.seq (jr [q0 0,jn (.build [(.nil true 1),(.int .i64 0),(.int .u64 0)] [(0,1,(.r 0))]),jn (.box wlg 3 (.r 1)),q1 3 2])
(.seq (jr [q0 3,jn (.callm wbt [(.r 0),(.c (.bool true))]),q55_ 4 0 3 0 0,qb 4 4 1])
(.seq (.region true [(2,0)] [q9 4 4,q0 3,jn (.callm wbs [(.r 1)]),qb 4 1 0,q1 2 2])
.ret)))),
[.cell true 4 1,.v 2]⟩
def wg0:IFun:=⟨[0,1,2,6],
(.seq (jr [q4 3])
(.seq (jr [q0 0,q0 1,jn (.bin false .geq (.r 0) (.r 1)),qa 2,qf 3 0,qf 3 2,jt 3 (.bin false .leq (.r 4) (.r 5)),qp 3 6,q1 3 7])
.ret)),
[.v 3]⟩
def wfl:IFun:=⟨[0,2,3,7,19],
(.seq (jr [q4 1])
(.seq (.seq (jr [q7 2 1])
(.block 0 (.loop [true,false,true,false,false] (.seq (.seq (jr [q0 2,q0 0,qm 1,q41_ 3 0 2])
(.cond (.v 3) .skip (.exit 0)))
(.seq (.block 1 (.seq (.region true [] [q0 0,q0 2,qh 1 1,q3 1 0 2,q2 1 3,q0 0,q0 2,q3 1 5 6,q2 1 7,q99_ 4 4 8])
(.cond (.v 4) (.seq (jr [q4 1])
.ret) .skip)))
(jr [q0 2,qc 0 1,q1 2 1]))))))
(.seq (jr [ql 1])
.ret))),
[.v 1]⟩
def wf4:IFun:=⟨[0,1,2,6,8,9,10,11,12,19],
(.seq (jr [q4 3])
(.seq (.seq (jr [q48_ 5 0,qo 6 5,q7 7 0])
(.block 0 (.loop [false,true,true,false,false,true,true,true,false,false] (.seq (jr [q6 8 7 6])
(.seq (.cond (.v 8) .skip (.exit 0))
(.seq (.block 1 (.seq (jr [qk 1 5 7,q2 1 0,q1 4 1])
(.seq (jr [q0 4,q0 1,q0 2,jn (.call false wa2 [(.r 0),(.r 1),(.r 2)]),q60_ 9 3])
(.cond (.v 9) (.seq (jr [q4 3])
.ret) .skip))))
(jr [q8 7 1,q1 7 0])))))))
(.seq (jr [ql 3])
.ret))),
[.v 3]⟩
def wf5:IFun:=⟨[0,1,2,4],
(.seq (jr [q44_ 2 2 0,q4 3])
(.seq (jr [q0 1,jn (.call false w9o [(.r 0)]),qa 1,qf 2 1,q47_ 2 0 2,qi 2 1 4,q68_ 2 5 1,jt 2 (.call false w97 [(.r 3),(jc 0),(.r 6)]),qp 2 7,q1 3 8])
.ret)),
[.v 3]⟩
def wet:IFun:=⟨[0,1,2,3],
(.seq (jr [js 2 (.box wlb 3 (.v 0)),q4 3])
(.seq (jr [q5 0 2,q2 1 0,qm 1,q80_ 2 0,qa 3,q85_ 4 2 1,qs 4 0 2,qg 4 1 6,jf 4 (.call false w98 [(.r 5),(.r 7)]),q62_ 4 8,qj 4 9,qa 10,q85_ 11 2 1,qs 11 1 2,qg 11 1 13,jf 11 (.call false w98 [(.r 12),(.r 14)]),q62_ 11 15,qj 11 16,qa 17,q85_ 18 2 1,qs 18 2 2,qg 18 1 20,jf 18 (.call false w98 [(.r 19),(.r 21)]),q62_ 18 22,qj 18 23,q1 3 24])
.ret)),
[.v 3]⟩
def wgo:IFun:=⟨[0,1,4,5,7,8,9,16],
(.seq (jr [q7 2 0])
(.seq (.seq (jr [q0 0,q59_ 4 0,q7 5 0])
(.block 0 (.loop [true,true,false,false,true,true,false,false] (.seq (jr [q6 6 5 4])
(.seq (.cond (.v 6) .skip (.exit 0))
(.seq (.block 1 (.seq (jr [q0 5,q1 3 0])
(.seq (jr [q0 1,q0 0,q0 3,q3 3 1 2,qz 3 3,js 7 (.callv false (.r 0) [(.r 4)])])
(.cond (.v 7) (.seq (jr [q0 3,q1 2 0])
.ret) .skip))))
(jr [q8 5 1,q1 5 0])))))))
(.seq (jr [q86_ 2])
.ret))),
[.v 2]⟩
def wgg:IFun:=⟨[0,1,4],
(.seq (jr [q4 2])
(.seq (jr [q0 0,q0 1,jn (.call false war [(.r 0),(.r 1)]),q81_ 2 0,q1 2 3])
.ret)),
[.v 2]⟩
def wes:IFun:=⟨[0,1,2],
(.seq (jr [q44_ 1 2 0,q4 2])
(.seq (jr [q5 0 1,q2 1 0,jn (.call false wa2 [(.r 1),(jc 1),(jc 16)]),qa 2,q47_ 3 1 1,qi 3 1 4,q96_ 3 5,jt 3 (.bin false .leq (.r 6) (jc 24)),qp 3 7,qa 8,q47_ 9 1 1,qi 9 1 10,jt 9 (.mkfn w8y [(.v 1)]),jt 9 (.call false waj [(.r 11),(.r 12)]),q92_ 9 13,qp 9 14,q1 2 15])
.ret)),
[.v 2]⟩
def wgs:IFun:=⟨[0,1,4,5,7,8,9,16],
(.seq (jr [q7 2 0])
(.seq (.seq (jr [q0 0,q59_ 4 0,q7 5 0])
(.block 0 (.loop [true,true,false,false,true,true,false,false] (.seq (jr [q6 6 5 4])
(.seq (.cond (.v 6) .skip (.exit 0))
(.seq (.block 1 (.seq (jr [q0 5,q1 3 0])
(.seq (jr [q0 1,q0 0,q0 3,q3 1 1 2,q2 1 3,js 7 (.bin false .eql (.r 0) (.r 4))])
(.cond (.v 7) (.seq (jr [q0 3,q1 2 0])
.ret) .skip))))
(jr [q8 5 1,q1 5 0])))))))
(.seq (jr [q86_ 2])
.ret))),
[.v 2]⟩
def wgk:IFun:=⟨[0,1,4],
(.seq (jr [q4 2])
(.seq (jr [q0 0,q0 1,jn (.call false waw [(.r 0),(.r 1)]),q81_ 2 0,q1 2 3])
.ret)),
[.v 2]⟩
def wfv:IFun:=⟨[0,1,3],
(.seq (jr [q4 2])
(.seq (jr [q64_ 1 1,q0 0,q3 1 0 1,q2 1 2,q1 2 3])
.ret)),
[.v 2]⟩
def wgp:IFun:=⟨[0,1,4,5,7,8,9,16],
(.seq (jr [q7 2 0])
(.seq (.seq (jr [q0 0,q59_ 4 0,q7 5 0])
(.block 0 (.loop [true,true,false,false,true,true,false,false] (.seq (jr [q6 6 5 4])
(.seq (.cond (.v 6) .skip (.exit 0))
(.seq (.block 1 (.seq (jr [q0 5,q1 3 0])
(.seq (jr [q0 1,q0 0,q0 3,q3 1 1 2,q2 1 3,js 7 (.callv false (.r 0) [(.r 4)])])
(.cond (.v 7) (.seq (jr [q0 3,q1 2 0])
.ret) .skip))))
(jr [q8 5 1,q1 5 0])))))))
(.seq (jr [q86_ 2])
.ret))),
[.v 2]⟩
def wgh:IFun:=⟨[0,1,4],
(.seq (jr [q4 2])
(.seq (jr [q0 0,q0 1,jn (.call false wat [(.r 0),(.r 1)]),q81_ 2 0,q1 2 3])
.ret)),
[.v 2]⟩
def wfu:IFun:=⟨[0,1,2,3,6,7,8,9,10,11,12,13,14,16,27,29,30,31,32,40,52,56,57,58,59],
(.seq (jr [q44_ 3 2 0,q93_ 4 1,q93_ 5 1])
(.seq (.region true [(8,4)] [q5 0 3,q2 1 0,q49_ 1 1,q5 1 3,q2 1 3,qm 4,q49_ 1 5,js 6 (.alloc wld [(.nil true 1)]),qb 1 6 2,q1 7 6])
(.seq (jr [q64_ 1 6,q0 1,q3 1 0 1,q52_ 1 2])
(.seq (.seq (jr [ql 8])
(.block 0 (.loop [false,false,true,true,false,false,true,true,true,false,false,false,false,false,false,false,false,false,false,false,false,false,false,false,false] (.seq (.seq (jr [q48_ 14 8])
(.cond (.v 14) .skip (.exit 0)))
(.block 1 (.seq (jr [q4 8])
(.seq (jr [q5 1 3,q37_ 15 1 0,qo 16 15,q7 17 0])
(.block 2 (.loop [false,false,true,true,false,false,true,true,true,false,false,false,false,false,false,true,true,true,false,false,false,false,false,false,false] (.seq (jr [q6 18 17 16])
(.seq (.cond (.v 18) .skip (.exit 2))
(.seq (.block 3 (.seq (jr [q0 17,qk 3 15 17,qz 3 1,q45_ 10 1 1 1,q1 9 0,qb 3 10 2])
(.seq (.region true [] [q5 0 10,q2 1 0,q5 1 10,q2 1 2,q1 11 1,q1 12 3])
(.seq (.seq (jr [q48_ 19 2])
(.cond (.v 19) (jr [q0 12,q0 11,q1 11 0,q1 12 1]) .skip))
(.seq (.seq (jr [q0 7,q0 9,q3 1 0 1,q2 1 2,qa 3,qy 4 11,jf 4 (.mkfn w9x [(.v 6)]),jf 4 (.call false wak [(.r 5),(.r 6)]),q62_ 4 7,qr 20 4 8])
(.cond (.v 20) (.exit 3) .skip))
(.seq (jr [q0 7,q0 9,q3 1 0 1,q52_ 1 2,ql 8])
(.seq (jr [q48_ 21 12,qo 22 21,q7 23 0])
(.block 4 (.loop [false,false,true,true,false,false,true,true,true,false,false,false,false,false,false,true,true,true,false,false,false,true,true,true,false] (.seq (jr [q6 24 23 22])
(.seq (.cond (.v 24) .skip (.exit 4))
(.seq (.block 5 (.seq (jr [qk 1 21 23,q2 1 0,q1 13 1])
(jr [q64_ 1 6,q0 13,q3 1 0 1,q52_ 1 2])))
(jr [q8 23 1,q1 23 0])))))))))))))
(jr [q8 17 1,q1 17 0])))))))))))))
(.seq (jr [q64_ 1 6,q0 7,q1 4 0,q1 5 1])
.ret))))),
[.v 4,.v 5]⟩
def wf7:IFun:=⟨[0,1,4,5,6,7,8,9,10,11,21],
(.seq (jr [qn 2 1])
(.seq (jr [qn 3 1])
(.seq (.seq (jr [q48_ 6 0,qo 7 6,q7 8 0])
(.block 0 (.loop [false,true,false,true,false,false,true,true,true,false,false] (.seq (jr [q6 9 8 7])
(.seq (.cond (.v 9) .skip (.exit 0))
(.seq (.block 1 (.seq (jr [q0 8,qk 1 6 8,q2 1 1,q1 4 0,q1 5 2])
(.seq (jr [q0 5,qa 0,qf 1 1,qf 1 4,qv 1 1 2 3,qi 1 1 4,qq 10 1 5])
(.cond (.v 10) (jr [q0 3,q0 4,qt 1 1,q38_ 1 0 2,q1 3 3]) .skip))))
(jr [q8 8 1,q1 8 0])))))))
(.seq (jr [q0 3,q1 2 0])
.ret)))),
[.v 2]⟩
def wft:IFun:=⟨[0,1,2,3,6,7,8,9,10,11],
(.seq (jr [q44_ 3 2 0,qn 4 1,qn 5 1])
(.seq (jr [q9 2 3,q0 1,jn (.call false w9w [(.r 0),(.r 1),(.c (.bool false))]),qa 2,qe 3 0,qe 3 1,q1 6 4,q1 7 5])
(.seq (jr [q9 2 3,q0 2,jn (.call false w9w [(.r 0),(.r 1),(.c (.bool true))]),qa 2,qe 3 0,qe 3 1,q1 8 4,q1 9 5])
(.seq (jr [q0 6,q0 8,jn (.call false w9a [(.r 0),(.r 1)]),q0 7,q0 9,jn (.call false w9a [(.r 3),(.r 4)]),q1 4 2,q1 5 5])
.ret)))),
[.v 4,.v 5]⟩
def weq:IFun:=⟨[0,1,2,3,5,6,7,37,39,40,41,42,70],
(.seq (jr [q56_ 1 4 0,q4 2])
(.seq (jr [q5 0 1,qz 2 0,js 3 (.alloc wl9 [(.int .i64 0),(.nil false 3)]),qb 2 3 1])
(.seq (.seq (jr [q9 2 3,jn (.call false w8x [(.r 0)]),q79_ 1,qa 2,qs 3 2 1,qg 3 1 4,qs 3 0 3,qg 3 1 6,q69_ 3 7 1,jf 3 (.call false wa2 [(.r 5),(jc 0),(.r 8)]),q62_ 3 9,qj 3 10,qa 11,qs 12 3 1,qg 12 1 13,qs 12 0 3,qg 12 1 15,q69_ 12 16 1,jf 12 (.call false wa2 [(.r 14),(jc 0),(.r 17)]),q62_ 12 18,qj 12 19,qa 20,qs 21 2 1,qg 21 1 22,qs 21 3 1,qg 21 1 24,jf 21 (.bin false .eql (.r 23) (.r 25)),qr 7 21 26])
(.cond (.v 7) (.seq (jr [q4 2])
.ret) .skip))
(.seq (.seq (jr [q5 1 3,q37_ 8 1 0,qo 9 8,q7 10 0])
(.block 0 (.loop [false,true,false,true,false,false,false,false,true,true,true,false,false] (.seq (jr [q6 11 10 9])
(.seq (.cond (.v 11) .skip (.exit 0))
(.seq (.block 1 (.seq (jr [qk 3 8 10,qz 3 0,q45_ 4 1 1 1,qb 3 4 1])
(.seq (jr [q5 1 4,q2 1 0,q5 2 1,q2 1 2,jn (.call false wan [(.r 1),(.r 3)]),qa 4,qs 5 0 4,qg 5 1 6,qs 5 3 1,qg 5 1 8,jf 5 (.call false wan [(.r 7),(.r 9)]),qj 5 10,qa 11,qs 12 2 4,qg 12 1 13,qs 12 2 1,qg 12 1 15,jf 12 (.call false wan [(.r 14),(.r 16)]),qj 12 17,qa 18,qs 19 2 4,qg 19 1 20,qs 19 3 1,qg 19 1 22,jf 19 (.call false wan [(.r 21),(.r 23)]),qr 12 19 24])
(.cond (.v 12) (.seq (jr [q4 2])
.ret) .skip))))
(jr [q8 10 1,q1 10 0])))))))
(.seq (jr [q9 2 3,q5 2 1,q2 1 1,q5 3 1,q2 1 3,jn (.call false w9v [(.r 0),(.r 2),(.r 4)]),qa 5,qe 6 0,qe 6 1,q1 5 7,q1 6 8])
(.seq (jr [q0 5,qm 0,q5 0 3,q2 1 2,q73_ 1 3,qa 4,qf 5 6,q96_ 5 6,q47_ 5 1 3,qi 5 1 8,q96_ 5 9,q67_ 5 7 10,qp 5 11,q1 2 12])
.ret)))))),
[.v 2]⟩
def wfm:IFun:=⟨[0,1,2,4],
(.seq (jr [q56_ 2 4 0,q4 3])
(.seq (jr [q9 4 2,jn (.call false w8v [(.r 0)]),qa 1,qf 2 1,jt 2 (.call false wa2 [(.r 3),(jc 1),(jc 400)]),qp 2 4,q1 3 5])
.ret)),
[.v 3]⟩
def wfx:IFun:=⟨[0,1,4,5],
(.seq (jr [qn 2 1])
(.seq (jr [q0 0,q75_ 1 0 0,q1 3 1])
(.seq (jr [q0 3,q0 1,q3 1 0 1,q97_ 1 2 1])
(.seq (jr [q0 3,q1 2 0])
.ret)))),
[.v 2]⟩
def wfy:IFun:=⟨[0,1,2],
(.seq (jr [q56_ 1 4 0,qn 2 1])
(.seq (jr [q5 0 1,qu 0 0,q2 1 1,q5 2 1,q2 1 3,jn (.call false w9z [(.r 2),(.r 4)]),q1 2 5])
.ret)),
[.v 2]⟩
def wfo:IFun:=⟨[0,1,3],
(.seq (jr [q4 2])
(.seq (jr [q64_ 1 1,q0 0,q3 1 0 1,q2 1 2,q80_ 3 0,q1 2 4])
.ret)),
[.v 2]⟩
def wfn:IFun:=⟨[0,1,2,3,4],
(.seq (jr [js 2 (.box wlb 3 (.v 0)),js 3 (.box wle 1 (.v 1)),q4 4])
(.seq (jr [q5 0 2,q2 1 0,jn (.mkfn w9r [(.v 3)]),jn (.call false wak [(.r 1),(.r 2)]),q79_ 3,q1 4 4])
.ret)),
[.v 4]⟩
def wfh:IFun:=⟨[0,1,2,4,5,6,7,9,10,11,12,18],
(.seq (jr [q44_ 2 2 0,qn 3 1])
(.seq (jr [qn 4 1])
(.seq (.seq (jr [q5 1 2,q37_ 7 1 0,qo 8 7,q7 9 0])
(.block 0 (.loop [false,true,false,false,true,false,false,true,true,true,false,false] (.seq (jr [q6 10 9 8])
(.seq (.cond (.v 10) .skip (.exit 0))
(.seq (.block 1 (.seq (jr [q0 9,qk 3 7 9,qz 3 1,q45_ 6 1 1 1,q1 5 0,qb 3 6 2])
(.seq (jr [q9 3 6,q0 1,js 11 (.call false w9q [(.r 0),(.r 1)])])
(.cond (.v 11) (jr [q0 4,q0 5,qt 1 1,q38_ 1 0 2,q1 4 3]) .skip))))
(jr [q8 9 1,q1 9 0])))))))
(.seq (jr [q0 4,q1 3 0])
.ret)))),
[.v 3]⟩
def wfk:IFun:=⟨[0,1,2,4,5,7,9,11,15,16,17,18,29,30,31,32,40,41,42,43],
(.seq (jr [js 2 (.box wlb 3 (.v 0)),qn 3 1])
(.seq (jr [q0 1,q84_ 0,q1 4 1])
(.seq (.seq (jr [q5 0 2,q37_ 8 1 0,qo 9 8,q7 10 0])
(.block 0 (.loop [false,false,true,false,true,false,false,false,true,true,true,false,false,false,false,false,false,false,false,false] (.seq (jr [q6 11 10 9])
(.seq (.cond (.v 11) .skip (.exit 0))
(.seq (.block 1 (.seq (jr [qk 1 8 10,q2 1 0,q1 5 1])
(jr [q0 4,q0 5,q3 1 0 1,q2 1 2,qh 3 1,q3 1 0 1,qd 1 5 4])))
(jr [q8 10 1,q1 10 0])))))))
(.seq (.seq (jr [q5 2 2,q37_ 12 1 0,qo 13 12,q7 14 0])
(.block 2 (.loop [false,false,true,false,true,false,false,false,false,false,false,false,true,true,true,false,false,false,false,false] (.seq (jr [q6 15 14 13])
(.seq (.cond (.v 15) .skip (.exit 2))
(.seq (.block 3 (.seq (jr [qk 1 12 14,q2 1 0,q1 6 1])
(jr [q0 4,q0 6,q3 1 0 1,q97_ 1 2 0])))
(jr [q8 14 1,q1 14 0])))))))
(.seq (.seq (jr [q5 1 2,q37_ 16 1 0,qo 17 16,q7 18 0])
(.block 4 (.loop [false,false,false,false,true,false,false,false,false,false,false,false,false,false,false,false,true,true,true,false] (.seq (jr [q6 19 18 17])
(.seq (.cond (.v 19) .skip (.exit 4))
(.seq (.block 5 (.seq (jr [qk 1 16 18,q2 1 0,q1 7 1])
(jr [q0 4,q0 7,q3 1 0 1,q2 1 2,qc 3 1,q3 1 0 1,qd 1 5 4])))
(jr [q8 18 1,q1 18 0])))))))
(.seq (jr [q0 4,q1 3 0])
.ret)))))),
[.v 3]⟩
def wgm:IFun:=⟨[0,1,4,5,10,12,13,14,24],
(.seq (jr [q4 2])
(.seq (.seq (jr [q0 0,qm 0,q0 1,qm 2,q66_ 4 1 3])
(.cond (.v 4) (.seq (jr [q4 2])
.ret) .skip))
(.seq (.seq (jr [q0 0,q59_ 5 0,q7 6 0])
(.block 0 (.loop [true,true,false,false,false,true,true,false,false] (.seq (jr [q6 7 6 5])
(.seq (.cond (.v 7) .skip (.exit 0))
(.seq (.block 1 (.seq (jr [q0 6,q1 3 0])
(.seq (.region true [] [q0 0,q0 3,q3 1 0 1,q2 1 2,q0 1,q0 3,q3 1 4 5,q2 1 6,q66_ 8 3 7])
(.cond (.v 8) (.seq (jr [q4 2])
.ret) .skip))))
(jr [q8 6 1,q1 6 0])))))))
(.seq (jr [ql 2])
.ret)))),
[.v 2]⟩
def wey:IFun:=⟨[0,1,3],
(.seq (jr [q4 2])
(.seq (jr [q0 0,q64_ 1 1,jn (.call false wap [(.r 0),(.r 1)]),q1 2 2])
.ret)),
[.v 2]⟩
def wgq:IFun:=⟨[0,1,4,5,7,8,9,16],
(.seq (jr [q7 2 0])
(.seq (.seq (jr [q0 0,q59_ 4 0,q7 5 0])
(.block 0 (.loop [true,true,false,false,true,true,false,false] (.seq (jr [q6 6 5 4])
(.seq (.cond (.v 6) .skip (.exit 0))
(.seq (.block 1 (.seq (jr [q0 5,q1 3 0])
(.seq (jr [q0 1,q0 0,q0 3,q3 1 1 2,q2 1 3,js 7 (.callv false (.r 0) [(.r 4)])])
(.cond (.v 7) (.seq (jr [q0 3,q1 2 0])
.ret) .skip))))
(jr [q8 5 1,q1 5 0])))))))
(.seq (jr [q86_ 2])
.ret))),
[.v 2]⟩
def wex:IFun:=⟨[0,1,2,3,4],
(.seq (jr [q77_ 2 2 0,js 3 (.box wle 1 (.v 1)),q7 4 0])
(.seq (jr [q5 0 2,q2 1 0,jn (.mkfn w93 [(.v 3)]),jn (.call false wau [(.r 1),(.r 2)]),q1 4 3])
.ret)),
[.v 4]⟩
def wfj:IFun:=⟨[0,1,2,3,6,7,8,9,11,12,13,22,31,32,33,34,50,56,61],
(.seq (jr [q44_ 3 2 0,q36_ 4 1 3,q7 5 0])
(.seq (jr [q0 1,q84_ 0,q61_ 1 1,jn (.build [(.nil false 1),(.nil true 3)] [(0,1,(.r 2))]),q36_ 6 1 3,qb 2 6 3])
(.seq (.seq (jr [q7 7 0])
(.block 0 (.loop [false,false,true,true,true,false,true,true,false,false,false,false,false,false,false,false,false,false,false] (.seq (.seq (jr [q0 7,q5 0 6,q2 1 1,qm 2,q41_ 11 0 3])
(.cond (.v 11) .skip (.exit 0)))
(.seq (.block 1 (.seq (.region true [] [q9 2 3,q5 0 6,q2 1 1,q0 7,q3 1 2 3,q2 1 4,q7 14 0,js 12 (.call false w9k [(.r 0),(.r 5)]),qo 13 12])
(.block 2 (.loop [false,false,true,true,true,false,true,true,false,false,false,false,true,true,true,false,false,false,false] (.seq (jr [q6 15 14 13])
(.seq (.cond (.v 15) .skip (.exit 2))
(.seq (.block 3 (.seq (jr [qk 1 12 14,q2 1 0,q1 8 1])
(.seq (.region true [] [q5 1 3,q2 1 0,q0 8,q3 3 1 2,qz 3 3,q5 0 6,q2 1 5,q0 7,q3 1 6 7,q2 1 8,jn (.call false w9n [(.r 4),(.r 9)]),q1 9 10])
(.seq (.seq (jr [q0 9,jn (.call false w97 [(.r 0),(jc 0),(jc 50)]),q60_ 16 1])
(.cond (.v 16) (.seq (jr [q83_ 1 3,qb 2 4 0,q7 5 3])
.ret) .skip))
(.seq (jr [q9 2 6,q0 9,q95_ 0 1,q1 10 2])
(.seq (.seq (jr [q0 10,q57_ 17 0 0])
(.cond (.v 17) (.seq (.seq (jr [q5 0 6,q2 1 0,qm 1,q0 2,q99_ 18 2 3])
(.cond (.v 18) (.seq (jr [q83_ 1 3,qb 2 4 0,q7 5 2])
.ret) .skip))
(.seq (jr [q5 0 6,q2 1 0,qm 1,q1 10 2])
(jr [q5 0 6,q2 1 0,q0 9,q61_ 1 2,q74_ 1 1 3,q5 0 6,qd 1 5 4]))) .skip))
(jr [q5 1 6,q2 1 0,q0 7,q0 8,q0 10,jn (.build [(.int .i64 0),(.int .i64 0),(.int .i64 0)] [(0,1,(.r 2)),(1,1,(.r 3)),(2,1,(.r 4))]),jn (.bslice false wl6 true 3 [(.r 5)]),jn (.append wl6 true 3 (.r 1) (.r 6)),q5 1 6,qd 1 8 7])))))))
(jr [q8 14 1,q1 14 0]))))))))
(jr [q0 7,qc 0 1,q1 7 1]))))))
(.seq (jr [q9 2 6,qb 2 4 0,q7 5 1])
.ret)))),
[.cell true 2 4,.v 5]⟩
def wfi:IFun:=⟨[0,1,2],
(.seq (jr [q56_ 1 4 0,qn 2 1])
(.seq (jr [q5 0 1,qu 0 0,q2 1 1,q5 3 1,q2 1 3,jn (.call false w9z [(.r 2),(.r 4)]),q1 2 5])
.ret)),
[.v 2]⟩
def wez:IFun:=⟨[0,1,2,4,5,6,8,9,11,12,14,24,25,26,27,46,47,48,49,59,68,69,70,71,78],
(.seq (jr [q77_ 2 2 0,q93_ 3 1])
(.seq (jr [q5 0 2,q2 1 0,qm 1,q49_ 1 2,q1 4 3])
(.seq (jr [q5 0 2,q2 1 0,qm 1,jn (.mkl wle 1 (.nil true 1) (.r 2)),q1 5 3])
(.seq (.seq (jr [q5 1 2,js 11 (.ldf (.r 0)),qo 12 11,q7 13 0])
(.block 0 (.loop [false,true,false,false,true,true,false,false,false,false,false,true,true,true,false,false,false,false,false,false,false,false,false,false,false] (.seq (jr [q6 14 13 12])
(.seq (.cond (.v 14) .skip (.exit 0))
(.seq (.block 1 (.seq (jr [qk 3 11 13,qz 3 0,q46_ 6 0 0 0,jn (.stl 3 (.v 6) (.r 1))])
(.region true [(10,2),(10,8),(11,2)] [q0 5,q5 2 6,q2 1 1,q0 5,q5 2 6,q2 1 4,q3 1 3 5,q5 0 6,q2 1 7,jn (.bslice true t_int true 1 [(.r 8)]),jn (.ldt t_int (.r 6)),jn (.apq t_int 1 (.r 10) (.r 9)),q3 1 0 2,jn (.stl 1 (.r 12) (.r 11))])))
(jr [q8 13 1,q1 13 0])))))))
(.seq (jr [q0 1,q84_ 0,q1 7 1])
(.seq (.seq (jr [q48_ 15 1,qo 16 15,q7 17 0])
(.block 2 (.loop [false,false,false,false,true,true,false,true,false,false,false,false,false,false,false,true,true,true,false,false,false,false,false,false,false] (.seq (jr [q6 18 17 16])
(.seq (.cond (.v 18) .skip (.exit 2))
(.seq (.block 3 (.seq (jr [qk 1 15 17,q2 1 0,q1 8 1])
(jr [q0 4,q0 8,q3 1 0 1,jn (.stl 1 (.r 2) (.c (.bool true)))])))
(jr [q8 17 1,q1 17 0])))))))
(.seq (.seq (jr [q7 9 0])
(.block 4 (.loop [false,false,false,false,true,true,false,true,false,true,false,false,false,false,false,false,false,false,false,false,false,false,false,false,false] (.seq (.seq (jr [q0 9,q0 7,qm 1,q41_ 19 0 2])
(.cond (.v 19) .skip (.exit 4)))
(.seq (.block 5 (.seq (jr [q0 5,q0 7,q0 9,q3 1 1 2,q2 1 3,q3 1 0 4,js 20 (.ldf (.r 5)),qo 21 20,q7 22 0])
(.block 6 (.loop [false,false,false,false,true,true,false,true,false,true,false,false,false,false,false,false,false,false,false,false,true,true,true,false,false] (.seq (jr [q6 23 22 21])
(.seq (.cond (.v 23) .skip (.exit 6))
(.seq (.block 7 (.seq (jr [qk 1 20 22,q2 1 0,q1 10 1])
(.seq (jr [q0 4,q0 10,q3 1 0 1,q2 1 2,q60_ 24 3])
(.cond (.v 24) (.seq (jr [q0 4,q0 10,q3 1 0 1,jn (.stl 1 (.r 2) (.c (.bool true)))])
(jr [q0 7,q0 10,qt 1 1,jn (.apq t_int 1 (.r 0) (.r 2)),q1 7 3])) .skip))))
(jr [q8 22 1,q1 22 0]))))))))
(jr [q0 9,qc 0 1,q1 9 1]))))))
(.seq (jr [q0 4,q1 3 0])
.ret)))))))),
[.v 3]⟩
def wgr:IFun:=⟨[0,1,4,5,7,8,9,16],
(.seq (jr [q7 2 0])
(.seq (.seq (jr [q0 0,q59_ 4 0,q7 5 0])
(.block 0 (.loop [true,true,false,false,true,true,false,false] (.seq (jr [q6 6 5 4])
(.seq (.cond (.v 6) .skip (.exit 0))
(.seq (.block 1 (.seq (jr [q0 5,q1 3 0])
(.seq (jr [q0 1,q0 0,q0 3,q3 1 1 2,q2 1 3,js 7 (.bin true .eql (.r 0) (.r 4))])
(.cond (.v 7) (.seq (jr [q0 3,q1 2 0])
.ret) .skip))))
(jr [q8 5 1,q1 5 0])))))))
(.seq (jr [q86_ 2])
.ret))),
[.v 2]⟩
def wff:IFun:=⟨[0,1,4,5,6,7,8,9,10,19],
(.seq (jr [q4 2])
(.seq (.seq (jr [q48_ 5 0,qo 6 5,q7 7 0])
(.block 0 (.loop [false,true,false,false,false,true,true,true,false,false] (.seq (jr [q6 8 7 6])
(.seq (.cond (.v 8) .skip (.exit 0))
(.seq (.block 1 (.seq (jr [q0 7,qk 1 5 7,q2 1 1,q1 3 0,q1 4 2])
(.seq (jr [q0 4,q0 1,q0 3,q3 1 1 2,q2 1 3,q41_ 9 0 4])
(.cond (.v 9) (.seq (jr [q4 2])
.ret) .skip))))
(jr [q8 7 1,q1 7 0])))))))
(.seq (jr [ql 2])
.ret))),
[.v 2]⟩
def wfq:IFun:=⟨[0,1,4],
(.seq (jr [q4 2])
(.seq (jr [q0 0,q0 1,jn (.call false w9i [(.r 0),(.r 1)]),qa 2,qf 3 0,qf 3 1,jt 3 (.call false wap [(.r 4),(.r 5)]),q92_ 3 6,qp 3 7,q1 2 8])
.ret)),
[.v 2]⟩
def wfd:IFun:=⟨[0,1,3],
(.seq (jr [q4 2])
(.seq (jr [q0 0,q64_ 1 1,jn (.call false w9t [(.r 0),(.r 1)]),q1 2 2])
.ret)),
[.v 2]⟩
def wf3:IFun:=⟨[0,1,2,3],
(.seq (jr [js 2 (.box wl6 3 (.v 0)),q4 3])
(.seq (jr [q5 2 2,q2 1 0,q64_ 1 1,q73_ 1 2,q1 3 3])
.ret)),
[.v 3]⟩
def wgn:IFun:=⟨[0,1,4,5,7,8,9,16],
(.seq (jr [q7 2 0])
(.seq (.seq (jr [q0 0,q59_ 4 0,q7 5 0])
(.block 0 (.loop [true,true,false,false,true,true,false,false] (.seq (jr [q6 6 5 4])
(.seq (.cond (.v 6) .skip (.exit 0))
(.seq (.block 1 (.seq (jr [q0 5,q1 3 0])
(.seq (jr [q0 1,q0 0,q0 3,q3 3 1 2,qz 3 3,js 7 (.callv false (.r 0) [(.r 4)])])
(.cond (.v 7) (.seq (jr [q0 3,q1 2 0])
.ret) .skip))))
(jr [q8 5 1,q1 5 0])))))))
(.seq (jr [q86_ 2])
.ret))),
[.v 2]⟩
def wgv:IFun:=⟨[0,2,3,9],
(.seq (jr [q0 0,qm 0,qh 1 1,q7 1 0,q1 2 2])
(.block 0 (.loop [true,true,true,false] (.seq (.seq (jr [q0 1,q0 2,q41_ 3 0 1])
(.cond (.v 3) .skip (.exit 0)))
(.seq (.block 1 (.region true [] [q0 0,q0 1,q0 0,q0 2,q0 0,q0 2,q3 1 4 5,q2 1 6,q0 0,q0 1,q3 1 8 9,q2 1 10,q3 1 0 1,qd 1 12 7,q3 1 2 3,qd 1 14 11]))
(jr [q0 1,qc 0 1,q0 2,qh 2 1,q1 1 1,q1 2 3])))))),
[]⟩
def wf2:IFun:=⟨[0,1,2,4,5,6,7,8,13,15],
(.seq (jr [q77_ 2 2 0,qn 3 1,q4 4])
(.seq (jr [q9 2 2,q0 1,q95_ 0 1,js 5 (.alloc t_int [(.int .i64 0)]),qb 1 5 2])
(.seq (.seq (jr [q64_ 1 5,q57_ 8 0 0])
(.cond (.v 8) (.seq (jr [qn 3 1,q4 4])
.ret) .skip))
(.seq (jr [qn 6 1])
(.seq (.block 0 (.loop [false,false,true,false,false,true,true,false,false,false] (.seq (.seq (jr [q64_ 1 5,q65_ 9 0 0])
(.cond (.v 9) .skip (.exit 0)))
(.block 1 (.seq (.region true [(6,1)] [q5 1 2,q2 1 0,q5 1 2,q2 1 2,jn (.mkfn w96 [(.v 5)]),q46_ 7 0 0 0,jn (.call false waq [(.r 3),(.r 4)]),q3 3 1 6,qz 3 7,qb 3 7 8])
(.seq (jr [q0 6,q5 1 7,q2 1 1,qt 1 2,q38_ 1 0 3,q1 6 4])
(jr [q5 0 7,q2 1 0,qb 1 5 1])))))))
(.seq (jr [q0 6,jn (.callm wb0 [(.r 0)])])
(.seq (jr [q0 6,q1 3 0,ql 4])
.ret))))))),
[.v 3,.v 4]⟩
def wew:IFun:=⟨[0,1,2,3],
(.seq (jr [js 2 (.box wl6 3 (.v 0)),q4 3])
(.seq (jr [q5 1 2,q2 1 0,q64_ 1 1,q73_ 1 2,q1 3 3])
.ret)),
[.v 3]⟩
def wgf:IFun:=⟨[0,1,4],
(.seq (jr [q4 2])
(.seq (jr [q0 0,q0 1,jn (.call false waq [(.r 0),(.r 1)]),q81_ 2 0,q1 2 3])
.ret)),
[.v 2]⟩
def wev:IFun:=⟨[0,1,2,3,4,5,6,9,10,11,17],
(.seq (jr [q77_ 2 2 0,q44_ 3 2 1,qn 4 1])
(.seq (jr [qn 5 1])
(.seq (.seq (jr [q5 1 3,q2 1 0,q59_ 7 1,q7 8 0])
(.block 0 (.loop [false,false,true,false,false,true,false,true,true,false,false] (.seq (jr [q6 9 8 7])
(.seq (.cond (.v 9) .skip (.exit 0))
(.seq (.block 1 (.seq (jr [q0 8,js 6 (.alloc t_int [(.int .i64 0)]),qb 1 6 0])
(.seq (jr [q5 1 2,q2 1 0,jn (.mkfn w91 [(.v 6)]),jn (.call false wai [(.r 1),(.r 2)]),q60_ 10 3])
(.cond (.v 10) (jr [q0 5,q64_ 1 6,qt 1 1,q38_ 1 0 2,q1 5 3]) .skip))))
(jr [q8 8 1,q1 8 0])))))))
(.seq (jr [q0 5,q1 4 0])
.ret)))),
[.v 4]⟩
def wfc:IFun:=⟨[0,1,2,4,5,6,7,8,9,10,11,12,13,15,26,39,47,53,66,79],
(.seq (jr [q56_ 2 4 0,qx 3 0 0 1 0,q36_ 4 1 3])
(.seq (.region true [(5,1)] [q5 0 2,qz 2 0,q9 4 2,q0 1,q36_ 5 1 3,jn (.call false wa0 [(.r 2)]),jn (.call false w9m [(.r 1),(.r 5),(.r 3)]),qa 6,qe 7 0,qe 7 1,qb 2 5 8,q1 6 9])
(.seq (.seq (jr [q0 6,q100_ 14 0 1])
(.cond (.v 14) (.seq (.region true [(2,1)] [q43_ 0 0 1 0 0 1 3,q9 2 5,qb 4 3 0,qb 2 4 1])
.ret) .skip))
(.seq (jr [q9 4 2,jn (.call false w9l [(.r 0)]),js 7 (.alloc wle [(.nil true 1)]),qb 1 7 1])
(.seq (jr [q5 0 5,q2 1 0,qm 1,q49_ 1 2,q1 8 3])
(.seq (.seq (jr [q9 2 5,q64_ 1 7,q95_ 0 1,q1 9 2])
(.seq (jr [q0 9,q58_ 15 0 0])
(.cond (.v 15) (jr [q9 2 5,q0 9,qt 1 1,jn (.call false w94 [(.r 0),(.r 2)]),q1 8 3]) .skip)))
(.seq (jr [q0 8,jn (.call false wav [(.r 0),(.c (.bool false))]),q7 10 1,q1 11 1])
(.seq (.seq (jr [q0 11,q57_ 16 0 0])
(.cond (.v 16) (jr [q5 0 5,q2 1 0,jn (.mkfn w9g [(.v 7)]),jn (.call false wau [(.r 1),(.r 2)]),q7 10 2,q1 11 3]) .skip))
(.seq (.seq (jr [q0 11,q58_ 17 0 0])
(.cond (.v 17) (.seq (.region true [] [q9 2 5,q5 0 5,q2 1 1,q0 11,q3 1 2 3,q2 1 4,jn (.call false w95 [(.r 0),(.r 5)]),qa 6,qe 7 0,qe 7 1,q1 12 8,qa 9])
(.seq (.seq (jr [q0 12,qm 0,q65_ 18 1 60])
(.cond (.v 18) (.seq (.region true [(2,1)] [q43_ 0 0 1 0 0 1 3,q9 2 5,qb 4 3 0,qb 2 4 1])
.ret) .skip))
(.seq (.region true [(4,3)] [q0 10,q0 12,jn (.build [(.int .i64 0),(.int .i64 0),(.nil true 1),(.int .i64 0)] [(0,1,(jc 2)),(1,1,(.r 0)),(2,1,(.r 1))]),q9 2 5,qb 4 3 2,qb 2 4 3])
.ret))) .skip))
(.seq (.seq (jr [q9 2 5,q5 0 2,qz 2 1,jn (.call false w90 [(.r 0),(.r 2)]),q1 13 3])
(.seq (jr [q0 13,qm 0,q65_ 19 1 0])
(.cond (.v 19) (.seq (.region true [(5,4)] [q0 13,jn (.iaddr 1 (.r 0) (jc 0)),q2 1 1,jn (.build [(.int .i64 0),(.int .i64 0),(.nil true 1),(.int .i64 0)] [(0,1,(jc 2)),(1,1,(jc 3)),(3,1,(.r 2))]),q9 2 5,qb 4 3 3,qb 2 4 4])
.ret) .skip)))
(.seq (.region true [(2,1)] [q43_ 0 0 1 0 0 1 1,q9 2 5,qb 4 3 0,qb 2 4 1])
.ret))))))))))),
[.cell true 4 3,.cell true 2 4]⟩
def wek:IFun:=⟨[0,1,2,4,5,6,11],
(.seq (jr [q56_ 2 4 0,qx 3 0 0 1 0,q4 4])
(.seq (.seq (jr [q9 4 2,q0 1,jn (.call false w9p [(.r 0),(.r 1)]),q60_ 6 2])
(.cond (.v 6) (.seq (jr [jn (.build [(.int .i64 0),(.int .i64 0),(.nil true 1),(.int .i64 0)] []),qb 4 3 0,q4 4])
.ret) .skip))
(.seq (jr [q9 4 2,q0 1,jn (.call false w9f [(.r 0),(.r 1)]),qa 2,qe 3 0,qe 3 1,qx 5 0 0 1 0,jn (.alloc wla [(.nil false 1),(.nil true 3)]),qb 4 5 4,qd 2 7 5])
(.seq (jr [q9 4 5,qb 4 3 0,ql 4])
.ret)))),
[.cell true 4 3,.v 4]⟩
def whw:IFun:=⟨[0,1,2,6],
(.seq (jr [q4 3])
(.seq (jr [q0 0,q0 1,jn (.bin false .geq (.r 0) (.r 1)),qa 2,qf 3 0,qf 3 2,jt 3 (.bin false .leq (.r 4) (.r 5)),qp 3 6,q1 3 7])
.ret)),
[.v 3]⟩
def wi0:IFun:=⟨[0,2],
(.seq (jr [q4 1])
(.seq (jr [q0 0,jn (.call false wc0 [(.r 0),(jc 1),(jc 16)]),q1 1 1])
.ret)),
[.v 1]⟩
def wi2:IFun:=⟨[0,1,2,6,7,8,9,10,11,12,33],
(.seq (jr [q4 3])
(.seq (.seq (jr [q48_ 6 0,qo 7 6,q7 8 0])
(.block 0 (.loop [true,true,true,false,false,false,true,true,true,false,false] (.seq (jr [q6 9 8 7])
(.seq (.cond (.v 9) .skip (.exit 0))
(.seq (.block 1 (.seq (jr [q0 8,qk 1 6 8,q2 1 1,q1 4 0,q1 5 2])
(.seq (jr [q0 5,q0 1,q0 2,jn (.call false wc0 [(.r 0),(.r 1),(.r 2)]),q79_ 3,qa 4,qy 5 4,q98_ 5 6 0,jf 5 (.mov (.r 7)),qf 8 0,qf 8 4,q68_ 8 10 1,qv 8 1 9 11,qi 8 1 12,qf 8 5,jt 8 (.bin false .geq (.r 13) (.r 14)),jf 5 (.pick (.r 8) (.r 15) (.c (.bool false))),qr 10 5 16])
(.cond (.v 10) (.seq (jr [q4 3])
.ret) .skip))))
(jr [q8 8 1,q1 8 0])))))))
(.seq (jr [ql 3])
.ret))),
[.v 3]⟩
def whh:IFun:=⟨[0,1,2,4,14,16,17,18,19,52],
(.seq (jr [q44_ 1 2 0,q4 2])
(.seq (.seq (jr [q5 0 1,q2 1 0,jn (.call false wc3 [(.r 1)]),q79_ 2,qa 3,qs 4 1 1,qg 4 1 5,q72_ 4 6,q98_ 4 7 24,qr 4 4 8])
(.cond (.v 4) (.seq (jr [q4 2])
.ret) .skip))
(.seq (.seq (jr [q5 1 1,q37_ 5 1 0,qo 6 5,q7 7 0])
(.block 0 (.loop [false,true,false,false,false,true,true,true,false,false] (.seq (jr [q6 8 7 6])
(.seq (.cond (.v 8) .skip (.exit 0))
(.seq (.block 1 (.seq (jr [qk 3 5 7,qz 3 0,q45_ 3 1 1 1,qb 3 3 1])
(.seq (jr [q5 0 3,q2 1 0,qm 1,q80_ 2 0,qa 3,qs 4 0 3,qg 4 1 5,qs 4 0 1,qg 4 1 7,q69_ 4 8 1,jf 4 (.call false wc5 [(.r 6),(jc 0),(.r 9)]),q62_ 4 10,qj 4 11,qa 12,qs 13 1 3,qg 13 1 14,qs 13 0 1,qg 13 1 16,q69_ 13 17 1,jf 13 (.call false wc5 [(.r 15),(jc 0),(.r 18)]),q62_ 13 19,qj 13 20,qa 21,qs 22 2 3,qg 22 1 23,qs 22 0 1,qg 22 1 25,q69_ 22 26 1,jf 22 (.call false wc5 [(.r 24),(jc 0),(.r 27)]),q62_ 22 28,qr 9 22 29])
(.cond (.v 9) (.seq (jr [q4 2])
.ret) .skip))))
(jr [q8 7 1,q1 7 0])))))))
(.seq (jr [ql 2])
.ret)))),
[.v 2]⟩
def wi9:IFun:=⟨[0,1,2,4,5,6,7,8,9,10,11,13,15,26,28,29,30,31,36,37,38,39,57,62,63,64,65],
(.seq (jr [q44_ 2 2 0,q93_ 3 1,q93_ 4 1])
(.seq (jr [q5 0 2,q2 1 0,q49_ 1 1,q1 5 2])
(.seq (jr [q5 1 2,q2 1 0,qm 1,q49_ 1 2,q1 6 3])
(.seq (jr [q0 5,q0 1,q3 1 0 1,q52_ 1 2])
(.seq (.seq (jr [ql 7])
(.block 0 (.loop [false,false,true,false,false,true,true,true,false,false,false,false,false,false,false,false,false,false,false,false,false,false,false,false,false,false,false] (.seq (.seq (jr [q48_ 13 7])
(.cond (.v 13) .skip (.exit 0)))
(.block 1 (.seq (jr [q4 7])
(.seq (jr [q5 1 2,q37_ 14 1 0,qo 15 14,q7 16 0])
(.block 2 (.loop [false,false,true,false,false,true,true,true,false,false,false,false,false,false,true,true,true,false,false,false,false,false,false,false,false,false,false] (.seq (jr [q6 17 16 15])
(.seq (.cond (.v 17) .skip (.exit 2))
(.seq (.block 3 (.seq (jr [q0 16,qk 3 14 16,qz 3 1,q45_ 9 1 1 1,q1 8 0,qb 3 9 2])
(.seq (jr [q4 10])
(.seq (.seq (jr [q5 0 9,q37_ 18 1 0,qo 19 18,q7 20 0])
(.block 4 (.loop [false,false,true,false,false,true,true,true,true,true,true,false,false,false,true,true,true,false,true,true,true,false,false,false,false,false,false] (.seq (jr [q6 21 20 19])
(.seq (.cond (.v 21) .skip (.exit 4))
(.seq (.block 5 (.seq (jr [qk 1 18 20,q2 1 0,q1 11 1])
(jr [q0 10,qa 0,qy 1 5,qy 1 11,q71_ 1 1 2 3,qg 1 1 4,qj 1 5,q1 10 6])))
(jr [q8 20 1,q1 20 0])))))))
(.seq (.seq (jr [q0 10,q79_ 0,qa 1,qy 2 6,qy 2 8,q71_ 2 1 3 4,qg 2 1 5,qr 22 2 6])
(.cond (.v 22) (.exit 3) .skip))
(.seq (jr [q0 6,q0 8,q3 1 0 1,q52_ 1 2])
(.seq (jr [ql 7])
(.seq (jr [q5 1 9,q37_ 23 1 0,qo 24 23,q7 25 0])
(.block 6 (.loop [false,false,true,false,false,true,true,true,false,false,false,false,false,false,true,true,true,false,false,false,false,false,false,true,true,true,false] (.seq (jr [q6 26 25 24])
(.seq (.cond (.v 26) .skip (.exit 6))
(.seq (.block 7 (.seq (jr [qk 1 23 25,q2 1 0,q1 12 1])
(jr [q0 5,q0 12,q3 1 0 1,q52_ 1 2])))
(jr [q8 25 1,q1 25 0]))))))))))))))
(jr [q8 16 1,q1 16 0])))))))))))))
(.seq (jr [q0 5,q0 6,q1 3 0,q1 4 1])
.ret)))))),
[.v 3,.v 4]⟩
def wi7:IFun:=⟨[0,1,2,4,5,6,7,8,9,10,11,13,15,26,28,29,30,31,36,37,38,39,57,62,63,64,65],
(.seq (jr [q44_ 2 2 0,q93_ 3 1,q93_ 4 1])
(.seq (jr [q5 0 2,q2 1 0,q49_ 1 1,q1 5 2])
(.seq (jr [q5 1 2,q2 1 0,qm 1,q49_ 1 2,q1 6 3])
(.seq (jr [q0 5,q0 1,q3 1 0 1,q52_ 1 2])
(.seq (.seq (jr [ql 7])
(.block 0 (.loop [false,false,true,false,false,true,true,true,false,false,false,false,false,false,false,false,false,false,false,false,false,false,false,false,false,false,false] (.seq (.seq (jr [q48_ 13 7])
(.cond (.v 13) .skip (.exit 0)))
(.block 1 (.seq (jr [q4 7])
(.seq (jr [q5 1 2,q37_ 14 1 0,qo 15 14,q7 16 0])
(.block 2 (.loop [false,false,true,false,false,true,true,true,false,false,false,false,false,false,true,true,true,false,false,false,false,false,false,false,false,false,false] (.seq (jr [q6 17 16 15])
(.seq (.cond (.v 17) .skip (.exit 2))
(.seq (.block 3 (.seq (jr [q0 16,qk 3 14 16,qz 3 1,q45_ 9 1 1 1,q1 8 0,qb 3 9 2])
(.seq (jr [q4 10])
(.seq (.seq (jr [q5 1 9,q37_ 18 1 0,qo 19 18,q7 20 0])
(.block 4 (.loop [false,false,true,false,false,true,true,true,true,true,true,false,false,false,true,true,true,false,true,true,true,false,false,false,false,false,false] (.seq (jr [q6 21 20 19])
(.seq (.cond (.v 21) .skip (.exit 4))
(.seq (.block 5 (.seq (jr [qk 1 18 20,q2 1 0,q1 11 1])
(jr [q0 10,qa 0,qy 1 5,qy 1 11,q71_ 1 1 2 3,qg 1 1 4,qj 1 5,q1 10 6])))
(jr [q8 20 1,q1 20 0])))))))
(.seq (.seq (jr [q0 10,q79_ 0,qa 1,qy 2 6,qy 2 8,q71_ 2 1 3 4,qg 2 1 5,qr 22 2 6])
(.cond (.v 22) (.exit 3) .skip))
(.seq (jr [q0 6,q0 8,q3 1 0 1,q52_ 1 2])
(.seq (jr [ql 7])
(.seq (jr [q5 0 9,q37_ 23 1 0,qo 24 23,q7 25 0])
(.block 6 (.loop [false,false,true,false,false,true,true,true,false,false,false,false,false,false,true,true,true,false,false,false,false,false,false,true,true,true,false] (.seq (jr [q6 26 25 24])
(.seq (.cond (.v 26) .skip (.exit 6))
(.seq (.block 7 (.seq (jr [qk 1 23 25,q2 1 0,q1 12 1])
(jr [q0 5,q0 12,q3 1 0 1,q52_ 1 2])))
(jr [q8 25 1,q1 25 0]))))))))))))))
(jr [q8 16 1,q1 16 0])))))))))))))
(.seq (jr [q0 5,q0 6,q1 3 0,q1 4 1])
.ret)))))),
[.v 3,.v 4]⟩
def wi8:IFun:=⟨[0,1,4,5,6,8,9,10,21],
(.seq (jr [qn 2 1])
(.seq (jr [qn 3 1])
(.seq (.seq (jr [q0 0,q59_ 5 0,q7 6 0])
(.block 0 (.loop [true,true,false,true,false,true,true,false,false] (.seq (jr [q6 7 6 5])
(.seq (.cond (.v 7) .skip (.exit 0))
(.seq (.block 1 (.seq (jr [q0 6,q1 4 0])
(.seq (jr [q0 0,q0 4,q3 1 0 1,q2 1 2,qa 3,qf 4 1,qf 4 4,qv 4 1 5 6,qi 4 1 7,qq 8 4 8])
(.cond (.v 8) (jr [q0 3,q0 4,qt 1 1,q38_ 1 0 2,q1 3 3]) .skip))))
(jr [q8 6 1,q1 6 0])))))))
(.seq (jr [q0 3,q1 2 0])
.ret)))),
[.v 2]⟩
def whi:IFun:=⟨[0,1,2,3,6,7,8,9,10,11,12,31],
(.seq (jr [q44_ 3 2 0,qn 4 1,qn 5 1,q4 6])
(.seq (.seq (jr [q9 2 3,jn (.call false wbm [(.r 0)]),q79_ 1,qa 2,qy 3 1,qs 3 0 3,qg 3 1 5,q69_ 3 6 1,jf 3 (.call false wc0 [(.r 4),(jc 0),(.r 7)]),q62_ 3 8,qj 3 9,qa 10,qy 11 2,qs 11 0 3,qg 11 1 13,q69_ 11 14 1,jf 11 (.call false wc0 [(.r 12),(jc 0),(.r 15)]),q62_ 11 16,qr 11 11 17])
(.cond (.v 11) (.seq (jr [qn 4 1,qn 5 1,q4 6])
.ret) .skip))
(.seq (jr [q9 2 3,q0 1,jn (.call false wcc [(.r 0),(.r 1)]),qa 2,qe 3 0,qe 3 1,q1 7 4,q1 8 5])
(.seq (jr [q9 2 3,q0 2,jn (.call false wca [(.r 0),(.r 1)]),qa 2,qe 3 0,qe 3 1,q1 9 4,q1 10 5])
(.seq (jr [q0 7,q0 9,jn (.call false wcb [(.r 0),(.r 1)]),q0 8,q0 10,jn (.call false wcb [(.r 3),(.r 4)]),q1 4 2,q1 5 5,ql 6])
.ret))))),
[.v 4,.v 5,.v 6]⟩
def whv:IFun:=⟨[0,1,4,6,7,8,9,10,15],
(.seq (jr [q4 2])
(.seq (.seq (jr [q48_ 4 0,qo 5 4,q7 6 0])
(.block 0 (.loop [false,true,false,false,true,true,true,false,false] (.seq (jr [q6 7 6 5])
(.seq (.cond (.v 7) .skip (.exit 0))
(.seq (.block 1 (.seq (jr [qk 1 4 6,q2 1 0,q1 3 1])
(.seq (jr [q0 3,q0 1,js 8 (.bin false .eql (.r 0) (.r 1))])
(.cond (.v 8) (.seq (jr [ql 2])
.ret) .skip))))
(jr [q8 6 1,q1 6 0])))))))
(.seq (jr [q4 2])
.ret))),
[.v 2]⟩
def whf:IFun:=⟨[0,1,2,3,4,5,7,44,47,48,49,50,78],
(.seq (jr [q56_ 1 4 0,q4 2])
(.seq (jr [q5 0 1,qz 2 0,q5 2 1,q2 1 2,q5 3 1,q2 1 4,jn (.call false wbn [(.r 1),(.r 3),(.r 5)]),qa 6,qe 7 0,qe 7 1,qe 7 2,q1 3 8,q1 4 9,q1 5 10])
(.seq (.seq (jr [q0 5,q79_ 0,qa 1,qs 2 2 1,qg 2 1 3,qs 2 3 1,qg 2 1 5,jf 2 (.bin false .eql (.r 4) (.r 6)),qj 2 7,qa 8,qy 9 3,q72_ 9 10,qs 9 0 1,jf 9 (.faddr 0 (.r 12)),qg 9 1 13,q78_ 9 11 14,qj 9 15,qa 16,qy 17 4,q72_ 17 18,qs 17 0 1,jf 17 (.faddr 1 (.r 20)),qg 17 1 21,q72_ 17 22,q78_ 17 19 23,qr 7 17 24])
(.cond (.v 7) (.seq (jr [q4 2])
.ret) .skip))
(.seq (.seq (jr [q5 0 1,qu 1 0,q37_ 8 1 1,qo 9 8,q7 10 0])
(.block 0 (.loop [false,true,false,false,false,false,false,false,true,true,true,false,false] (.seq (jr [q6 11 10 9])
(.seq (.cond (.v 11) .skip (.exit 0))
(.seq (.block 1 (.seq (jr [qk 3 8 10,qz 3 0,q45_ 6 1 1 1,qb 3 6 1])
(.seq (jr [q5 1 6,q2 1 0,q5 2 1,q2 1 2,jn (.call false wbz [(.r 1),(.r 3)]),qa 4,qs 5 0 6,qg 5 1 6,qs 5 3 1,qg 5 1 8,jf 5 (.call false wbz [(.r 7),(.r 9)]),qj 5 10,qa 11,qs 12 2 6,qg 12 1 13,qs 12 2 1,qg 12 1 15,jf 12 (.call false wbz [(.r 14),(.r 16)]),qj 12 17,qa 18,qs 19 2 6,qg 19 1 20,qs 19 3 1,qg 19 1 22,jf 19 (.call false wbz [(.r 21),(.r 23)]),qr 12 19 24])
(.cond (.v 12) (.seq (jr [q4 2])
.ret) .skip))))
(jr [q8 10 1,q1 10 0])))))))
(.seq (jr [ql 2])
.ret))))),
[.v 2]⟩
def wig:IFun:=⟨[0,1,2,4],
(.seq (jr [q56_ 2 4 0,q4 3])
(.seq (jr [q9 4 2,jn (.call false wbk [(.r 0)]),qa 1,qf 2 1,jt 2 (.call false wc0 [(.r 3),(jc 1),(jc 400)]),qp 2 4,q1 3 5])
.ret)),
[.v 3]⟩
def wia:IFun:=⟨[0,1,4,5],
(.seq (jr [qn 2 1])
(.seq (jr [q0 0,q75_ 1 0 0,q1 3 1])
(.seq (jr [q0 3,q0 1,q3 1 0 1,q97_ 1 2 1])
(.seq (jr [q0 3,q1 2 0])
.ret)))),
[.v 2]⟩
def wii:IFun:=⟨[0,1,2,3],
(.seq (jr [q56_ 1 4 0,qn 2 1,qn 3 1])
(.seq (.region true [(10,7),(10,9)] [q5 0 1,qu 0 0,q2 1 1,q5 2 1,q2 1 3,q5 0 1,qu 0 5,q2 1 6,q5 3 1,q2 1 8,jn (.call false wcd [(.r 2),(.r 4)]),jn (.call false wcd [(.r 7),(.r 9)]),q1 2 10,q1 3 11])
.ret)),
[.v 2,.v 3]⟩
def whz:IFun:=⟨[0,2],
(.seq (jr [qn 1 1])
(.seq (jr [jn (.bslice false t_int true 1 []),q0 0,q38_ 1 0 1,q1 1 2])
.ret)),
[.v 1]⟩
def wi4:IFun:=⟨[0,1,2,4,6,8,9,10,11,18],
(.seq (jr [js 2 (.box wlb 3 (.v 0)),q4 3])
(.seq (.seq (jr [q5 0 2,q37_ 5 1 0,qo 6 5,q7 7 0])
(.block 0 (.loop [false,true,false,false,false,true,true,true,false,false] (.seq (jr [q6 8 7 6])
(.seq (.cond (.v 8) .skip (.exit 0))
(.seq (.block 1 (.seq (jr [qk 1 5 7,q2 1 0,q1 4 1])
(.seq (jr [q0 1,q0 4,q3 1 0 1,q2 1 2,q87_ 9 3 0])
(.cond (.v 9) (.seq (jr [q4 3])
.ret) .skip))))
(jr [q8 7 1,q1 7 0])))))))
(.seq (jr [ql 3])
.ret))),
[.v 3]⟩
def wi5:IFun:=⟨[0,1,2,4,5,6,7,9,10,11,12,18],
(.seq (jr [q44_ 2 2 0,qn 3 1])
(.seq (jr [qn 4 1])
(.seq (.seq (jr [q5 1 2,q37_ 7 1 0,qo 8 7,q7 9 0])
(.block 0 (.loop [false,true,false,false,true,false,false,true,true,true,false,false] (.seq (jr [q6 10 9 8])
(.seq (.cond (.v 10) .skip (.exit 0))
(.seq (.block 1 (.seq (jr [q0 9,qk 3 7 9,qz 3 1,q45_ 6 1 1 1,q1 5 0,qb 3 6 2])
(.seq (jr [q9 3 6,q0 1,js 11 (.call false wc7 [(.r 0),(.r 1)])])
(.cond (.v 11) (jr [q0 4,q0 5,qt 1 1,q38_ 1 0 2,q1 4 3]) .skip))))
(jr [q8 9 1,q1 9 0])))))))
(.seq (jr [q0 4,q1 3 0])
.ret)))),
[.v 3]⟩
def wi6:IFun:=⟨[0,1,2,4,5,7,9,11,15,16,17,18,29,30,31,32,40,41,42,43],
(.seq (jr [js 2 (.box wlb 3 (.v 0)),qn 3 1])
(.seq (jr [q0 1,jn (.call false wc2 [(.r 0)]),q1 4 1])
(.seq (.seq (jr [q5 0 2,q37_ 8 1 0,qo 9 8,q7 10 0])
(.block 0 (.loop [false,false,true,false,true,false,false,false,true,true,true,false,false,false,false,false,false,false,false,false] (.seq (jr [q6 11 10 9])
(.seq (.cond (.v 11) .skip (.exit 0))
(.seq (.block 1 (.seq (jr [qk 1 8 10,q2 1 0,q1 5 1])
(jr [q0 4,q0 5,q3 1 0 1,q2 1 2,qh 3 1,q3 1 0 1,qd 1 5 4])))
(jr [q8 10 1,q1 10 0])))))))
(.seq (.seq (jr [q5 2 2,q37_ 12 1 0,qo 13 12,q7 14 0])
(.block 2 (.loop [false,false,true,false,true,false,false,false,false,false,false,false,true,true,true,false,false,false,false,false] (.seq (jr [q6 15 14 13])
(.seq (.cond (.v 15) .skip (.exit 2))
(.seq (.block 3 (.seq (jr [qk 1 12 14,q2 1 0,q1 6 1])
(jr [q0 4,q0 6,q3 1 0 1,q97_ 1 2 0])))
(jr [q8 14 1,q1 14 0])))))))
(.seq (.seq (jr [q5 1 2,q37_ 16 1 0,qo 17 16,q7 18 0])
(.block 4 (.loop [false,false,false,false,true,false,false,false,false,false,false,false,false,false,false,false,true,true,true,false] (.seq (jr [q6 19 18 17])
(.seq (.cond (.v 19) .skip (.exit 4))
(.seq (.block 5 (.seq (jr [qk 1 16 18,q2 1 0,q1 7 1])
(jr [q0 4,q0 7,q3 1 0 1,q2 1 2,qc 3 1,q3 1 0 1,qd 1 5 4])))
(jr [q8 18 1,q1 18 0])))))))
(.seq (jr [q0 4,q1 3 0])
.ret)))))),
[.v 3]⟩
def whj:IFun:=⟨[0,1,2,6,8,9,10,11,12,19],
(.seq (jr [q4 3])
(.seq (.seq (jr [q48_ 5 0,qo 6 5,q7 7 0])
(.block 0 (.loop [false,true,true,false,false,true,true,true,false,false] (.seq (jr [q6 8 7 6])
(.seq (.cond (.v 8) .skip (.exit 0))
(.seq (.block 1 (.seq (jr [qk 1 5 7,q2 1 0,q1 4 1])
(.seq (jr [q0 4,q0 1,q0 2,jn (.call false wc0 [(.r 0),(.r 1),(.r 2)]),q60_ 9 3])
(.cond (.v 9) (.seq (jr [q4 3])
.ret) .skip))))
(jr [q8 7 1,q1 7 0])))))))
(.seq (jr [ql 3])
.ret))),
[.v 3]⟩
def whg:IFun:=⟨[0,1,4],
(.seq (jr [q4 2])
(.seq (jr [q0 0,jn (.call false wc3 [(.r 0)]),qa 1,qf 2 1,q96_ 2 3,qf 2 0,q67_ 2 4 5,qp 2 6,qa 7,qf 8 1,jt 8 (.call false wbo [(.r 9),(jc 0),(jc 50)]),qp 8 10,q1 2 11])
.ret)),
[.v 2]⟩
def wi3:IFun:=⟨[0,1,4,5,10,12,13,14,24],
(.seq (jr [q4 2])
(.seq (.seq (jr [q0 0,qm 0,q0 1,qm 2,q66_ 4 1 3])
(.cond (.v 4) (.seq (jr [q4 2])
.ret) .skip))
(.seq (.seq (jr [q0 0,q59_ 5 0,q7 6 0])
(.block 0 (.loop [true,true,false,false,false,true,true,false,false] (.seq (jr [q6 7 6 5])
(.seq (.cond (.v 7) .skip (.exit 0))
(.seq (.block 1 (.seq (jr [q0 6,q1 3 0])
(.seq (.region true [] [q0 0,q0 3,q3 1 0 1,q2 1 2,q0 1,q0 3,q3 1 4 5,q2 1 6,q66_ 8 3 7])
(.cond (.v 8) (.seq (jr [q4 2])
.ret) .skip))))
(jr [q8 6 1,q1 6 0])))))))
(.seq (jr [ql 2])
.ret)))),
[.v 2]⟩
def wid:IFun:=⟨[0,1,4,5,6,7,8,9,10,16],
(.seq (jr [q7 2 0])
(.seq (.seq (jr [q48_ 5 0,qo 6 5,q7 7 0])
(.block 0 (.loop [false,true,false,false,false,true,true,true,false,false] (.seq (jr [q6 8 7 6])
(.seq (.cond (.v 8) .skip (.exit 0))
(.seq (.block 1 (.seq (jr [q0 7,qk 1 5 7,q2 1 1,q1 3 0,q1 4 2])
(.seq (jr [q0 4,q0 1,js 9 (.call false wc6 [(.r 0),(.r 1)])])
(.cond (.v 9) (.seq (jr [q0 3,q1 2 0])
.ret) .skip))))
(jr [q8 7 1,q1 7 0])))))))
(.seq (jr [q86_ 2])
.ret))),
[.v 2]⟩
def wic:IFun:=⟨[0,1,2,3,6,7,8,9,11,12,13,22,31,32,33,34,52,66,69],
(.seq (jr [q44_ 3 2 0,q36_ 4 1 3,q7 5 0])
(.seq (jr [q0 1,jn (.call false wc2 [(.r 0)]),q61_ 1 1,jn (.build [(.nil false 1),(.nil true 3)] [(0,1,(.r 2))]),q36_ 6 1 3,qb 2 6 3])
(.seq (.seq (jr [q7 7 0])
(.block 0 (.loop [false,false,true,true,true,false,true,true,false,false,false,false,false,false,false,false,false,false,false] (.seq (.seq (jr [q0 7,q5 0 6,q2 1 1,qm 2,q41_ 11 0 3])
(.cond (.v 11) .skip (.exit 0)))
(.seq (.block 1 (.seq (.region true [] [q9 2 3,q5 0 6,q2 1 1,q0 7,q3 1 2 3,q2 1 4,q7 14 0,js 12 (.call false wc8 [(.r 0),(.r 5)]),qo 13 12])
(.block 2 (.loop [false,false,true,true,true,false,true,true,false,false,false,false,true,true,true,false,false,false,false] (.seq (jr [q6 15 14 13])
(.seq (.cond (.v 15) .skip (.exit 2))
(.seq (.block 3 (.seq (jr [qk 1 12 14,q2 1 0,q1 8 1])
(.seq (.region true [] [q5 1 3,q2 1 0,q0 8,q3 3 1 2,qz 3 3,q5 0 6,q2 1 5,q0 7,q3 1 6 7,q2 1 8,jn (.call false wc9 [(.r 4),(.r 9)]),q1 9 10])
(.seq (.seq (jr [q5 0 3,q2 1 0,q0 9,jn (.call false wbl [(.r 1),(.r 2)]),q60_ 16 3])
(.cond (.v 16) (.seq (jr [q83_ 1 3,qb 2 4 0,q7 5 3])
.ret) .skip))
(.seq (jr [q5 0 6,q2 1 0,q0 9,jn (.call false wcg [(.r 1),(.r 2)]),q1 10 3])
(.seq (.seq (jr [q0 10,jn (.bin false .lss (.r 0) (jc 0)),qa 1,q47_ 2 0 6,qi 2 1 3,q96_ 2 4,qf 2 2,q67_ 2 5 6,qq 17 2 7])
(.cond (.v 17) (.seq (jr [q83_ 1 3,qb 2 4 0,q7 5 2])
.ret) .skip))
(.seq (.seq (jr [q0 10,q57_ 18 0 0])
(.cond (.v 18) (.seq (jr [q5 0 6,q2 1 0,qm 1,q1 10 2])
(jr [q5 0 6,q2 1 0,q0 9,q61_ 1 2,q74_ 1 1 3,q5 0 6,qd 1 5 4])) .skip))
(jr [q5 1 6,q2 1 0,q0 7,q0 8,q0 10,jn (.build [(.int .i64 0),(.int .i64 0),(.int .i64 0)] [(0,1,(.r 2)),(1,1,(.r 3)),(2,1,(.r 4))]),jn (.bslice false wl6 true 3 [(.r 5)]),jn (.append wl6 true 3 (.r 1) (.r 6)),q5 1 6,qd 1 8 7]))))))))
(jr [q8 14 1,q1 14 0]))))))))
(jr [q0 7,qc 0 1,q1 7 1]))))))
(.seq (jr [q9 2 6,qb 2 4 0,q7 5 1])
.ret)))),
[.cell true 2 4,.v 5]⟩
def wie:IFun:=⟨[0,1,2,4,5,7,8,10,15,16,17,18,25,27,28,29,30,45],
(.seq (jr [q77_ 2 2 0,q93_ 3 1])
(.seq (jr [q5 0 2,q2 1 0,qm 1,q49_ 1 2,q1 4 3])
(.seq (.seq (jr [q48_ 8 1,qo 9 8,q7 10 0])
(.block 0 (.loop [false,false,true,false,true,false,false,false,true,true,true,false,false,false,false,false,false,false] (.seq (jr [q6 11 10 9])
(.seq (.cond (.v 11) .skip (.exit 0))
(.seq (.block 1 (.seq (jr [qk 1 8 10,q2 1 0,q1 5 1])
(jr [q0 4,q0 5,q3 1 0 1,q52_ 1 2])))
(jr [q8 10 1,q1 10 0])))))))
(.seq (.seq (jr [ql 6])
(.block 2 (.loop [false,false,true,false,true,false,true,false,false,false,false,false,false,false,false,false,false,false] (.seq (.seq (jr [q48_ 12 6])
(.cond (.v 12) .skip (.exit 2)))
(.block 3 (.seq (jr [q4 6])
(.seq (jr [q5 1 2,q37_ 13 1 0,qo 14 13,q7 15 0])
(.block 4 (.loop [false,false,true,false,true,false,true,false,false,false,false,false,false,true,true,true,false,false] (.seq (jr [q6 16 15 14])
(.seq (.cond (.v 16) .skip (.exit 4))
(.seq (.block 5 (.seq (jr [qk 3 13 15,qz 3 0,q46_ 7 0 0 0,qb 3 7 1])
(.seq (jr [q0 4,q5 2 7,q2 1 1,q3 1 0 2,q2 1 3,qa 4,qf 5 4,q47_ 5 0 7,qi 5 1 7,qv 5 1 6 8,qi 5 1 9,q92_ 5 10,qq 17 5 11])
(.cond (.v 17) (.seq (jr [q0 4,q5 0 7,q2 1 1,q3 1 0 2,q52_ 1 3])
(jr [ql 6])) .skip))))
(jr [q8 15 1,q1 15 0])))))))))))))
(.seq (jr [q0 4,q1 3 0])
.ret))))),
[.v 3]⟩
def wif:IFun:=⟨[0,1,2,4,5,6,7,8,10,11,12,14,20,21,22,35,42,43,44,45,59,77,79,80,81,82,101],
(.seq (jr [q77_ 2 2 0,qn 3 1])
(.seq (jr [q5 0 2,q2 1 0,qm 1,q75_ 1 0 2,q1 4 3])
(.seq (.seq (jr [q0 4,q59_ 12 0,q7 13 0])
(.block 0 (.loop [false,true,true,false,true,false,false,false,false,false,false,false,true,true,false,false,false,false,false,false,false,false,false,false,false,false,false] (.seq (jr [q6 14 13 12])
(.seq (.cond (.v 14) .skip (.exit 0))
(.seq (.block 1 (.seq (jr [q0 13,q1 5 0])
(jr [q0 4,q0 5,q3 1 0 1,jn (.store 1 (.r 2) (jc (-1)))])))
(jr [q8 13 1,q1 13 0])))))))
(.seq (jr [q0 4,q0 1,q3 1 0 1,q97_ 1 2 0])
(.seq (jr [q0 1,qt 1 0,q1 6 1])
(.seq (.block 2 (.loop [false,true,true,false,true,false,true,false,false,false,false,false,false,false,false,false,false,false,false,false,false,false,false,false,false,false,false] (.seq (.seq (jr [q0 6,qm 0,q65_ 15 1 0])
(.cond (.v 15) .skip (.exit 2)))
(.block 3 (.seq (jr [q0 6,jn (.iaddr 1 (.r 0) (jc 0)),q2 1 1,q1 7 2])
(.seq (jr [q0 6,jn (.slq 1 (.r 0) (jc 1)),q1 6 1])
(.seq (jr [q5 1 2,js 16 (.ldf (.r 0)),qo 17 16,q7 18 0])
(.block 4 (.loop [false,true,true,false,true,false,true,true,false,false,false,false,false,false,false,false,true,true,true,false,false,false,false,false,false,false,false] (.seq (jr [q6 19 18 17])
(.seq (.cond (.v 19) .skip (.exit 4))
(.seq (.block 5 (.seq (jr [qk 3 16 18,qz 3 0,q46_ 8 0 0 0,qb 3 8 1])
(.seq (jr [q5 2 8,q2 1 0,q0 7,q73_ 1 2,qa 3,qf 4 4,q47_ 4 0 8,qi 4 1 6,qv 4 1 5 7,qi 4 1 8,q50_ 4 9 0,qq 20 4 10])
(.cond (.v 20) (.seq (.region true [] [q0 4,q5 0 8,q2 1 1,q0 4,q0 7,q3 1 3 4,q2 1 5,qc 6 1,q3 1 0 2,qd 1 8 7])
(jr [q0 6,q5 0 8,q2 1 1,qt 1 2,jn (.apq t_int 1 (.r 0) (.r 3)),q1 6 4])) .skip))))
(jr [q8 18 1,q1 18 0])))))))))))))
(.seq (jr [qn 9 1])
(.seq (jr [q7 10 0])
(.seq (.block 6 (.loop [false,true,true,false,true,false,false,false,false,true,true,false,false,false,false,false,false,false,false,false,false,false,false,false,false,false,false] (.seq (.seq (jr [q0 10,q0 1,q66_ 21 0 1])
(.cond (.v 21) .skip (.exit 6)))
(.block 7 (.seq (jr [q5 1 2,js 22 (.ldf (.r 0)),qo 23 22,q7 24 0])
(.block 8 (.loop [false,true,true,false,true,false,false,false,false,true,true,false,false,false,false,false,false,false,false,false,false,false,true,true,true,false,false] (.seq (jr [q6 25 24 23])
(.seq (.cond (.v 25) .skip (.exit 8))
(.seq (.block 9 (.seq (jr [qk 3 22 24,qz 3 0,q46_ 11 0 0 0,qb 3 11 1])
(.seq (.region true [] [q5 0 11,q2 1 0,q0 10,q73_ 1 2,qa 3,qf 4 4,q47_ 4 2 11,qi 4 1 6,qv 4 1 5 7,qi 4 1 8,qf 4 4,qf 4 10,qv 4 1 10 11,qi 4 1 12,q68_ 4 13 1,q67_ 4 9 14,qq 26 4 15])
(.cond (.v 26) (.seq (jr [q0 9,q5 1 11,q2 1 1,qt 1 2,jn (.apq t_int 1 (.r 0) (.r 3)),q1 9 4])
(.seq (jr [q5 2 11,q2 1 0,q1 10 1])
(.exit 8))) .skip))))
(jr [q8 24 1,q1 24 0])))))))))))
(.seq (jr [q0 9,q1 3 0])
.ret)))))))))),
[.v 3]⟩
def whl:IFun:=⟨[0,1,4,5,6,7,8,9,10,19],
(.seq (jr [q4 2])
(.seq (.seq (jr [q48_ 5 1,qo 6 5,q7 7 0])
(.block 0 (.loop [true,false,false,false,false,true,true,true,false,false] (.seq (jr [q6 8 7 6])
(.seq (.cond (.v 8) .skip (.exit 0))
(.seq (.block 1 (.seq (jr [q0 7,qk 1 5 7,q2 1 1,q1 3 0,q1 4 2])
(.seq (jr [q0 0,q0 3,q3 1 0 1,q2 1 2,q0 4,q41_ 9 3 4])
(.cond (.v 9) (.seq (jr [q4 2])
.ret) .skip))))
(jr [q8 7 1,q1 7 0])))))))
(.seq (jr [ql 2])
.ret))),
[.v 2]⟩
def wib:IFun:=⟨[0,1,2,3,4,5,6,7,9,12,13,14,17,18,19,20,32],
(.seq (jr [q44_ 2 2 0,q77_ 3 2 1,qn 4 1])
(.seq (jr [qn 5 1])
(.seq (.seq (jr [q5 1 2,q2 1 0,q59_ 9 1,q7 10 0])
(.block 0 (.loop [false,false,false,true,false,true,false,false,false,true,true,false,false,false,false,false,false] (.seq (jr [q6 11 10 9])
(.seq (.cond (.v 11) .skip (.exit 0))
(.seq (.block 1 (.seq (jr [q0 10,q1 6 0])
(.seq (jr [q4 7])
(.seq (.seq (jr [q5 1 3,q37_ 12 1 0,qo 13 12,q7 14 0])
(.block 2 (.loop [false,false,false,true,false,true,true,true,false,true,true,false,true,true,true,false,false] (.seq (jr [q6 15 14 13])
(.seq (.cond (.v 15) .skip (.exit 2))
(.seq (.block 3 (.seq (jr [qk 3 12 14,qz 3 0,q46_ 8 0 0 0,qb 3 8 1])
(jr [q0 7,qa 0,qs 1 1 8,qg 1 1 2,qy 1 6,jf 1 (.bin false .eql (.r 3) (.r 4)),qj 1 5,q1 7 6])))
(jr [q8 14 1,q1 14 0])))))))
(.seq (jr [q0 7,q60_ 16 0])
(.cond (.v 16) (jr [q0 5,q0 6,qt 1 1,q38_ 1 0 2,q1 5 3]) .skip))))))
(jr [q8 10 1,q1 10 0])))))))
(.seq (jr [q0 5,q1 4 0])
.ret)))),
[.v 4]⟩
def wih:IFun:=⟨[0,1,2,3,4,6,7,8,9,10,11,12,13,24,31,32,33,34,39,46,47,48,49,61,73],
(.seq (jr [q56_ 2 4 0,q77_ 3 2 1,qx 4 0 0 1 0])
(.seq (jr [q9 4 2,jn (.call false wcl [(.r 0)]),qa 1,qe 2 0,qe 2 1,qa 3,q1 5 4])
(.seq (jr [qn 6 1])
(.seq (.seq (jr [q5 0 3,q2 1 0,q0 5,jn (.call false wcg [(.r 1),(.r 2)]),q1 7 3])
(.seq (jr [q0 7,q58_ 13 0 0])
(.cond (.v 13) (jr [q0 6,q0 7,qt 1 1,q38_ 1 0 2,q1 6 3]) .skip)))
(.seq (.seq (jr [q9 2 3,q0 6,js 14 (.call false wch [(.r 0),(.r 1)]),qo 15 14,q7 16 0])
(.block 0 (.loop [false,false,true,true,true,true,false,false,false,false,false,false,false,false,true,true,true,false,false,false,false,false,false,false,false] (.seq (jr [q6 17 16 15])
(.seq (.cond (.v 17) .skip (.exit 0))
(.seq (.block 1 (.seq (jr [q0 16,qk 1 14 16,q2 1 1,q1 8 0,q1 9 2])
(.seq (jr [q0 9,q60_ 18 0])
(.cond (.v 18) (.seq (jr [q9 2 3,q0 8,jn (.call false wci [(.r 0),(.r 1)]),jn (.build [(.int .i64 0),(.int .i64 0),(.nil true 1),(.int .i64 0)] [(0,1,(jc 2)),(1,1,(jc 1)),(2,1,(.r 2))]),qb 4 4 3])
.ret) .skip))))
(jr [q8 16 1,q1 16 0])))))))
(.seq (.seq (jr [q5 0 3,q37_ 19 1 0,qo 20 19,q7 21 0])
(.block 2 (.loop [false,false,true,true,true,true,false,false,false,false,false,false,false,false,false,false,false,false,false,true,true,true,false,false,false] (.seq (jr [q6 22 21 20])
(.seq (.cond (.v 22) .skip (.exit 2))
(.seq (.block 3 (.seq (jr [q0 21,qk 1 19 21,q2 1 1,q1 10 0,q1 11 2])
(.seq (jr [q0 11,q0 5,jn (.call false wbq [(.r 0),(.r 1)]),qa 2,qf 3 11,qf 3 5,jt 3 (.call false wc6 [(.r 4),(.r 5)]),q92_ 3 6,qq 23 3 7])
(.cond (.v 23) (.seq (jr [q9 2 3,q0 10,jn (.call false wci [(.r 0),(.r 1)]),jn (.build [(.int .i64 0),(.int .i64 0),(.nil true 1),(.int .i64 0)] [(0,1,(jc 2)),(1,1,(jc 2)),(2,1,(.r 2))]),qb 4 4 3])
.ret) .skip))))
(jr [q8 21 1,q1 21 0])))))))
(.seq (.seq (jr [q5 0 2,qz 2 0,q9 2 3,jn (.call false wce [(.r 1),(.r 2)]),q1 12 3])
(.seq (jr [q0 12,qm 0,q65_ 24 1 0])
(.cond (.v 24) (.seq (jr [q0 12,jn (.iaddr 1 (.r 0) (jc 0)),q2 1 1,jn (.build [(.int .i64 0),(.int .i64 0),(.nil true 1),(.int .i64 0)] [(0,1,(jc 2)),(1,1,(jc 3)),(3,1,(.r 2))]),qb 4 4 3])
.ret) .skip)))
(.seq (jr [q43_ 0 0 1 0 0 1 1,qb 4 4 0])
.ret)))))))),
[.cell true 4 4]⟩
def whd:IFun:=⟨[0,1,2,4,5,6,8,9,10,14,30,38],
(.seq (jr [q56_ 2 4 0,qx 3 0 0 1 0,q4 4])
(.seq (.seq (jr [q9 4 2,q0 1,jn (.call false wcj [(.r 0),(.r 1)]),q60_ 9 2])
(.cond (.v 9) (.seq (jr [jn (.build [(.int .i64 0),(.int .i64 0),(.nil true 1),(.int .i64 0)] []),qb 4 3 0,q4 4])
.ret) .skip))
(.seq (jr [q9 4 2,jn (.call false wcl [(.r 0)]),qa 1,qe 2 0,qe 2 1,q1 5 3,qa 4])
(.seq (jr [q5 0 2,qz 2 0,q0 5,q0 1,jn (.call false wcf [(.r 1),(.r 2),(.r 3)]),qa 4,qe 5 0,qe 5 1,q36_ 6 1 3,qb 2 6 6,q1 7 7])
(.seq (.seq (jr [q0 7,q100_ 10 0 1])
(.cond (.v 10) (.seq (jr [q43_ 0 0 1 0 0 1 3,qb 4 3 0,ql 4])
.ret) .skip))
(.seq (jr [q9 4 2,q9 2 6,jn (.call false wck [(.r 0),(.r 1)]),qx 8 0 0 1 0,qb 4 8 2])
(.seq (.seq (jr [q5 2 8,q2 1 0,qm 1,q65_ 11 2 60])
(.cond (.v 11) (.seq (jr [q43_ 0 0 1 0 0 1 3,qb 4 3 0,ql 4])
.ret) .skip))
(.seq (jr [q9 4 8,qb 4 3 0,ql 4])
.ret)))))))),
[.cell true 4 3,.v 4]⟩
def wgc:IFun:=⟨[0,1,4,5,6],
(.seq (jr [js 2 (.mov (.c (.int .u32 0))),js 3 (.mov (.c (.int .u32 0)))])
(.seq (jr [q0 0,q88_ 0,q0 1,q88_ 2,q90_ 1 3,q1 4 4])
(.seq (jr [q0 4,q42_ 0 32,jn (.conv .u32 (.r 1)),q0 4,jn (.conv .u32 (.r 3)),q1 2 2,q1 3 4])
.ret))),
[.v 2,.v 3]⟩
def wgd:IFun:=⟨[0,1,4,5,6,7,8,9,10,11,12,13],
(.seq (jr [q103_ 2 0,q103_ 3 0])
(.seq (jr [q0 0,q94_ 0 4294967295,q1 4 1])
(.seq (jr [q0 0,q42_ 0 32,q1 5 1])
(.seq (jr [q0 1,q94_ 0 4294967295,q1 6 1])
(.seq (jr [q0 1,q42_ 0 32,q1 7 1])
(.seq (jr [q0 4,q0 6,q90_ 0 1,q1 8 2])
(.seq (jr [q0 5,q0 6,q90_ 0 1,q0 8,q42_ 3 32,qw 2 4,q1 9 5])
(.seq (jr [q0 9,q94_ 0 4294967295,q1 10 1])
(.seq (jr [q0 9,q42_ 0 32,q1 11 1])
(.seq (jr [q0 10,q0 4,q0 7,q90_ 1 2,qw 0 3,q1 10 4])
(.seq (jr [q0 5,q0 7,q90_ 0 1,q0 11,qw 2 3,q0 10,q42_ 5 32,qw 4 6,q1 2 7])
(.seq (jr [q0 0,q0 1,q90_ 0 1,q1 3 2])
.ret)))))))))))),
[.v 2,.v 3]⟩
def wgb:IFun:=⟨[0,1,4,5,6,7,8,9],
(.seq (jr [q103_ 2 0,q103_ 3 0])
(.seq (.cond (.c (.bool false)) (.seq (jr [q0 0,jn (.conv .u32 (.r 0)),q0 1,jn (.conv .u32 (.r 2)),jn (.call false wae [(.r 1),(.r 3)]),qa 4,qe 5 0,qe 5 1,q1 4 6,q1 5 7])
(.seq (jr [q0 4,q88_ 0,q0 5,q88_ 2,q1 2 1,q1 3 3])
.ret)) .skip)
(.seq (jr [q0 0,q0 1,jn (.call false waf [(.r 0),(.r 1)]),qa 2,qe 3 0,qe 3 1,q1 6 4,q1 7 5])
(.seq (jr [q0 6,q0 7,q1 2 0,q1 3 1])
.ret)))),
[.v 2,.v 3]⟩
def wgu:IFun:=⟨[0,1,4,5,6,7,8,10,26,37],
(.seq (jr [qn 2 1])
(.seq (.seq (jr [q0 1,q57_ 7 0 0])
(.cond (.v 7) (jr [jn (.bad),jn (.bad)]) .skip))
(.seq (jr [q0 0,qm 0,q88_ 1,q0 1,q88_ 3,jn (.call false wad [(.r 2),(.r 4)]),qa 5,qe 6 0,qe 6 1,q1 3 7,q1 4 8])
(.seq (.seq (jr [q0 3,jn (.bin false .gtr (.r 0) (.c (.int .u64 0))),qa 1,qy 2 4,jf 2 (.bin false .gtr (.r 3) (.c (.int .u64 9223372036854775807))),qr 8 2 4])
(.cond (.v 8) (jr [jn (.bad),jn (.bad)]) .skip))
(.seq (jr [q0 4,jn (.conv .i64 (.r 0)),q75_ 1 0 1,q1 5 2])
(.seq (jr [q0 5,q0 0,jn (.copy 1 (.r 0) (.r 1)),q1 6 2])
(.seq (.block 0 (.loop [false,false,false,false,false,true,true,false,false,false] (.seq (.seq (jr [q0 6,q0 5,qm 1,q41_ 9 0 2])
(.cond (.v 9) .skip (.exit 0)))
(.block 1 (.region true [] [q0 6,q0 5,q0 6,jn (.slice 1 (.r 1) (some (.r 2)) none),q0 5,q0 6,jn (.slice 1 (.r 4) none (some (.r 5))),jn (.copy 1 (.r 3) (.r 6)),qw 0 7,q1 6 8])))))
(.seq (jr [q0 5,q1 2 0])
.ret)))))))),
[.v 2]⟩
def wfg:IFun:=⟨[0,1,2,3,6,7,8,9,11,12,13,22,26,27,28,29,36,51],
(.seq (jr [q77_ 3 2 0,qn 4 1])
(.seq (jr [jn (.bslice false t_int true 1 [(jc (-1))]),q5 0 3,q2 1 1,qm 2,jn (.call false waz [(.r 0),(.r 3)]),q1 5 4])
(.seq (jr [q0 5,q0 1,q3 1 0 1,q97_ 1 2 0])
(.seq (.seq (jr [q7 6 0,ql 7])
(.block 0 (.loop [false,false,true,true,false,true,true,true,false,false,false,false,false,false,false,false,false,false] (.seq (.seq (jr [q48_ 11 7])
(.cond (.v 11) .skip (.exit 0)))
(.seq (.block 1 (.seq (jr [q4 7])
(.seq (jr [q5 1 3,q37_ 12 1 0,qo 13 12,q7 14 0])
(.block 2 (.loop [false,false,true,true,false,true,true,true,false,false,false,false,true,true,true,false,false,false] (.seq (jr [q6 15 14 13])
(.seq (.cond (.v 15) .skip (.exit 2))
(.seq (.block 3 (.seq (jr [qk 3 12 14,qz 3 0,q46_ 8 0 0 0,qb 3 8 1])
(.seq (.region true [] [q5 0 8,q2 1 0,q5 2 8,q2 1 2,q1 9 1,q1 10 3])
(.seq (.seq (jr [q48_ 16 2])
(.cond (.v 16) (jr [q0 10,q0 9,q1 9 0,q1 10 1]) .skip))
(.seq (jr [q0 5,q0 9,q3 1 0 1,q2 1 2,q0 6,q73_ 3 4,qa 5,qf 6 5,qf 6 10,qv 6 1 7 8,qi 6 1 9,q50_ 6 10 0,qq 17 6 11])
(.cond (.v 17) (jr [q0 5,q0 10,q0 6,qc 2 1,q3 1 0 1,qd 1 4 3,ql 7]) .skip))))))
(jr [q8 14 1,q1 14 0])))))))))
(jr [q0 6,qc 0 1,q1 6 1]))))))
(.seq (jr [q0 5,q1 4 0])
.ret))))),
[.v 4]⟩
def wed:IFun:=⟨[0,2],
(.seq (jr [q4 1])
(.seq (jr [q0 0,q0 0,jn (.bin false .neq (.r 0) (.r 1)),q1 1 2])
.ret)),
[.v 1]⟩
def wec:IFun:=⟨[0,1,4,5,6,11,12,13,16,19],
(.seq (jr [q7 2 0])
(.seq (jr [q0 0,jn (.call false w8i [(.r 0)]),q1 3 1])
(.seq (jr [q0 1,jn (.call false w8i [(.r 0)]),q1 4 1])
(.seq (.seq (jr [q48_ 5 3])
(.cond (.v 5) (.seq (.seq (jr [q48_ 6 4])
(.cond (.v 6) (.seq (jr [q7 2 0])
.ret) .skip))
(.seq (jr [q86_ 2])
.ret)) .skip))
(.seq (.seq (jr [q48_ 7 4])
(.cond (.v 7) (.seq (jr [q7 2 1])
.ret) .skip))
(.seq (.seq (jr [q0 0,q0 1,q41_ 8 0 1])
(.cond (.v 8) (.seq (jr [q86_ 2])
.ret) .skip))
(.seq (.seq (jr [q0 0,q0 1,q101_ 9 0 1])
(.cond (.v 9) (.seq (jr [q7 2 1])
.ret) .skip))
(.seq (jr [q7 2 0])
.ret)))))))),
[.v 2]⟩
def wge:IFun:=⟨[0,1,4,5,6,7,8,9,10,11,12,19,28,35],
(.seq (jr [q7 2 0])
(.seq (.seq (jr [q48_ 7 0,qo 8 7,q7 9 0])
(.block 0 (.loop [true,true,false,false,false,false,false,true,true,true,false,false,false,false] (.seq (jr [q6 10 9 8])
(.seq (.cond (.v 10) .skip (.exit 0))
(.seq (.block 1 (.seq (jr [q0 9,qk 1 7 9,q2 1 1,q1 3 0,q1 4 2])
(.seq (.seq (jr [q0 3,q0 1,qm 1,q99_ 11 0 2])
(.cond (.v 11) (.seq (jr [q7 2 1])
.ret) .skip))
(.seq (jr [q0 1,q0 3,q3 1 0 1,q2 1 2,q1 5 3])
(.seq (jr [q0 4,q0 5,jn (.call false w8h [(.r 0),(.r 1)]),q1 6 2])
(.seq (jr [q0 6,q100_ 12 0 0])
(.cond (.v 12) (.seq (jr [q0 6,q1 2 0])
.ret) .skip)))))))
(jr [q8 9 1,q1 9 0])))))))
(.seq (.seq (jr [q0 0,qm 0,q0 1,qm 2,q41_ 13 1 3])
(.cond (.v 13) (.seq (jr [q86_ 2])
.ret) .skip))
(.seq (jr [q7 2 0])
.ret)))),
[.v 2]⟩
def wf9:IFun:=⟨[0,1,2,5],
(.seq (jr [q7 3 0])
(.seq (.region true [] [q5 0 2,q2 1 0,q0 0,q3 1 1 2,q2 1 3,q5 0 2,q2 1 5,q0 1,q3 1 6 7,q2 1 8,jn (.call false wah [(.r 4),(.r 9)]),q1 3 10])
.ret)),
[.v 3]⟩
def wg9:IFun:=⟨[0,2,4,8],
(.seq (jr [q7 1 0])
(.seq (.seq (jr [q0 0,js 2 (.bin false .geq (.r 0) (.c (.int .u32 65536)))])
(.cond (.v 2) (.seq (jr [q0 0,q42_ 0 16,q1 0 1])
(jr [q7 1 16])) .skip))
(.seq (.seq (jr [q0 0,js 3 (.bin false .geq (.r 0) (.c (.int .u32 256)))])
(.cond (.v 3) (.seq (jr [q0 0,q42_ 0 8,q1 0 1])
(jr [q0 1,qc 0 8,q1 1 1])) .skip))
(.seq (jr [q0 1,q0 0,jn (.conv .u8 (.r 1)),⟨none,.stri (.c (.str ⟨#[0,1,2,2,3,3,3,3,4,4,4,4,4,4,4,4,5,5,5,5,5,5,5,5,5,5,5,5,5,5,5,5,6,6,6,6,6,6,6,6,6,6,6,6,6,6,6,6,6,6,6,6,6,6,6,6,6,6,6,6,6,6,6,6,7,7,7,7,7,7,7,7,7,7,7,7,7,7,7,7,7,7,7,7,7,7,7,7,7,7,7,7,7,7,7,7,7,7,7,7,7,7,7,7,7,7,7,7,7,7,7,7,7,7,7,7,7,7,7,7,7,7,7,7,7,7,7,7,8,8,8,8,8,8,8,8,8,8,8,8,8,8,8,8,8,8,8,8,8,8,8,8,8,8,8,8,8,8,8,8,8,8,8,8,8,8,8,8,8,8,8,8,8,8,8,8,8,8,8,8,8,8,8,8,8,8,8,8,8,8,8,8,8,8,8,8,8,8,8,8,8,8,8,8,8,8,8,8,8,8,8,8,8,8,8,8,8,8,8,8,8,8,8,8,8,8,8,8,8,8,8,8,8,8,8,8,8,8,8,8,8,8,8,8,8,8,8,8,8,8,8,8,8,8,8,8]⟩)) (.r 2),none⟩,jn (.conv .i64 (.r 3)),qw 0 4,q1 1 5])
.ret)))),
[.v 1]⟩
def wga:IFun:=⟨[0,2,4,8,14],
(.seq (jr [q7 1 0])
(.seq (.seq (jr [q0 0,js 2 (.bin false .geq (.r 0) (.c (.int .u64 4294967296)))])
(.cond (.v 2) (.seq (jr [q0 0,q42_ 0 32,q1 0 1])
(jr [q7 1 32])) .skip))
(.seq (.seq (jr [q0 0,js 3 (.bin false .geq (.r 0) (.c (.int .u64 65536)))])
(.cond (.v 3) (.seq (jr [q0 0,q42_ 0 16,q1 0 1])
(jr [q0 1,qc 0 16,q1 1 1])) .skip))
(.seq (.seq (jr [q0 0,js 4 (.bin false .geq (.r 0) (.c (.int .u64 256)))])
(.cond (.v 4) (.seq (jr [q0 0,q42_ 0 8,q1 0 1])
(jr [q0 1,qc 0 8,q1 1 1])) .skip))
(.seq (jr [q0 1,q0 0,jn (.conv .u8 (.r 1)),⟨none,.stri (.c (.str ⟨#[0,1,2,2,3,3,3,3,4,4,4,4,4,4,4,4,5,5,5,5,5,5,5,5,5,5,5,5,5,5,5,5,6,6,6,6,6,6,6,6,6,6,6,6,6,6,6,6,6,6,6,6,6,6,6,6,6,6,6,6,6,6,6,6,7,7,7,7,7,7,7,7,7,7,7,7,7,7,7,7,7,7,7,7,7,7,7,7,7,7,7,7,7,7,7,7,7,7,7,7,7,7,7,7,7,7,7,7,7,7,7,7,7,7,7,7,7,7,7,7,7,7,7,7,7,7,7,7,8,8,8,8,8,8,8,8,8,8,8,8,8,8,8,8,8,8,8,8,8,8,8,8,8,8,8,8,8,8,8,8,8,8,8,8,8,8,8,8,8,8,8,8,8,8,8,8,8,8,8,8,8,8,8,8,8,8,8,8,8,8,8,8,8,8,8,8,8,8,8,8,8,8,8,8,8,8,8,8,8,8,8,8,8,8,8,8,8,8,8,8,8,8,8,8,8,8,8,8,8,8,8,8,8,8,8,8,8,8,8,8,8,8,8,8,8,8,8,8,8,8,8,8,8,8,8,8]⟩)) (.r 2),none⟩,jn (.conv .i64 (.r 3)),qw 0 4,q1 1 5])
.ret))))),
[.v 1]⟩
def wg8:IFun:=⟨[0,2],
(.seq (jr [q7 1 0])
(.seq (.cond (.c (.bool false)) (.seq (jr [q0 0,jn (.conv .u32 (.r 0)),jn (.call false wab [(.r 1)]),q1 1 2])
.ret) .skip)
(.seq (jr [q0 0,jn (.call false wac [(.r 0)]),q1 1 1])
.ret))),
[.v 1]⟩
def wh0:IFun:=⟨[0,1,2,3,8,9,14,34],
(.seq (jr [q0 1,qc 0 1,q1 4 1])
(.block 0 (.loop [true,true,true,true,true,false,false,false] (.seq (.seq (jr [q0 4,q0 2,q41_ 6 0 1])
(.cond (.v 6) .skip (.exit 0)))
(.seq (.block 1 (.seq (jr [q0 4,q1 5 0])
(.block 2 (.loop [true,true,true,true,true,true,false,false] (.seq (.seq (.region true [] [q0 5,q0 1,jn (.bin false .gtr (.r 0) (.r 1)),qa 2,qf 3 3,qf 3 0,qf 3 5,qv 3 1 5 6,qi 3 1 7,qf 3 0,qf 3 5,q68_ 3 10 1,qv 3 1 9 11,qi 3 1 12,q54_ 3 4 8 13,q50_ 3 14 0,qq 7 3 15])
(.cond (.v 7) .skip (.exit 2)))
(.seq (.block 3 (.region true [] [q0 0,q0 5,q0 0,q0 5,qh 3 1,q0 0,q0 5,qh 6 1,q3 1 5 7,q2 1 8,q0 0,q0 5,q3 1 10 11,q2 1 12,q3 1 0 1,qd 1 14 9,q3 1 2 4,qd 1 16 13]))
(jr [q0 5,qh 0 1,q1 5 1])))))))
(jr [q0 4,qc 0 1,q1 4 1])))))),
[]⟩
def wha:IFun:=⟨[0,1,2,3,4,10,11,18,40,58],
(.seq (jr [q0 1,q1 5 0])
(.block 0 (.loop [true,false,true,true,true,true,false,false,false,false] (.block 1 (.seq (jr [q0 5,jn (.bin false .mul (jc 2) (.r 0)),qc 1 1,q1 6 2])
(.seq (.seq (jr [q0 6,q0 2,q99_ 7 0 1])
(.cond (.v 7) (.exit 0) .skip))
(.seq (.seq (.region true [] [q0 6,qc 0 1,q0 2,jn (.bin false .lss (.r 1) (.r 2)),qa 3,qf 4 4,qf 4 0,qf 4 3,qf 4 6,jt 4 (.bin false .add (.r 7) (.r 8)),qv 4 1 6 9,qi 4 1 10,qf 4 0,qf 4 3,qf 4 6,jt 4 (.bin false .add (.r 13) (.r 14)),jt 4 (.bin false .add (.r 15) (jc 1)),qv 4 1 12 16,qi 4 1 17,q54_ 4 5 11 18,q50_ 4 19 0,qq 8 4 20])
(.cond (.v 8) (jr [q0 6,qc 0 1,q1 6 1]) .skip))
(.seq (.seq (.region true [] [q0 4,q0 0,q0 3,q0 5,qw 2 3,q3 1 1 4,q2 1 5,q0 0,q0 3,q0 6,qw 8 9,q3 1 7 10,q2 1 11,jn (.callv false (.r 0) [(.r 6),(.r 12)]),jn (.bin false .lss (.r 13) (jc 0)),q60_ 9 14])
(.cond (.v 9) .ret .skip))
(.seq (.region true [] [q0 0,q0 3,q0 5,qw 1 2,q0 0,q0 3,q0 6,qw 5 6,q0 0,q0 3,q0 6,qw 9 10,q3 1 8 11,q2 1 12,q0 0,q0 3,q0 5,qw 15 16,q3 1 14 17,q2 1 18,q3 1 0 3,qd 1 20 13,q3 1 4 7,qd 1 22 19])
(jr [q0 6,q1 5 0])))))))))),
[]⟩
def wgz:IFun:=⟨[0,1,2,3,8,9,10,11,12,21,33],
(.seq (jr [q0 1,q1 4 0])
(.seq (jr [q7 5 0])
(.seq (jr [q0 2,q0 1,q53_ 0 1,q1 6 2])
(.seq (.seq (jr [q0 6,qh 0 1,q82_ 1 2,q1 7 2])
(.block 0 (.loop [true,false,false,true,true,true,true,true,false,false,false] (.seq (.seq (jr [q0 7,q58_ 9 0 0])
(.cond (.v 9) .skip (.exit 0)))
(.seq (.block 1 (jr [q0 0,q0 7,q0 6,q0 4,q0 3,jn (.callm wbf [(.r 0),(.r 1),(.r 2),(.r 3),(.r 4)])]))
(jr [q0 7,qh 0 1,q1 7 1]))))))
(.seq (jr [q0 6,qh 0 1,q1 8 1])
(.block 2 (.loop [true,false,false,true,true,true,false,false,true,false,false] (.seq (.seq (jr [q0 8,q58_ 10 0 0])
(.cond (.v 10) .skip (.exit 2)))
(.seq (.block 3 (.seq (.region true [] [q0 0,q0 4,q0 0,q0 4,q0 8,qw 3 4,q0 0,q0 4,q0 8,qw 7 8,q3 1 6 9,q2 1 10,q0 0,q0 4,q3 1 12 13,q2 1 14,q3 1 0 1,qd 1 16 11,q3 1 2 5,qd 1 18 15])
(jr [q0 0,q0 5,q0 8,q0 4,q0 3,jn (.callm wbf [(.r 0),(.r 1),(.r 2),(.r 3),(.r 4)])])))
(jr [q0 8,qh 0 1,q1 8 1])))))))))),
[]⟩
def wh3:IFun:=⟨[0,2],
(.seq (jr [q103_ 1 0])
(.seq (jr [q0 0,q88_ 0,jn (.call false waa [(.r 1)]),jn (.bin false .shl (.c (.int .u64 1)) (.r 2)),q1 1 3])
.ret)),
[.v 1]⟩
def whb:IFun:=⟨[0,2],
(.seq (jr [q103_ 1 0])
(.seq (.region true [] [q0 0,q40_ 0,q2 1 1,q0 0,q40_ 3,q2 1 4,jn (.bin false .shl (.r 5) (.c (.int .u64 13))),jn (.bin false .xor (.r 2) (.r 6)),q40_ 0,qd 1 8 7])
(.seq (.region true [] [q0 0,q40_ 0,q2 1 1,q0 0,q40_ 3,q2 1 4,q42_ 5 7,jn (.bin false .xor (.r 2) (.r 6)),q40_ 0,qd 1 8 7])
(.seq (.region true [] [q0 0,q40_ 0,q2 1 1,q0 0,q40_ 3,q2 1 4,jn (.bin false .shl (.r 5) (.c (.int .u64 17))),jn (.bin false .xor (.r 2) (.r 6)),q40_ 0,qd 1 8 7])
(.seq (jr [q0 0,q40_ 0,q2 1 1,q1 1 2])
.ret))))),
[.v 1]⟩
def wgx:IFun:=⟨[0,1,2,8,9,10,11,12,17,35,45],
(.seq (jr [q0 2,q0 1,q53_ 0 1,q1 3 2])
(.seq (jr [q0 3,q58_ 8 0 8])
(.cond (.v 8) (.seq (jr [q0 3,q88_ 0,js 4 (.alloc wlf [(.int .u64 0)]),qb 1 4 1])
(.seq (jr [q0 3,jn (.call false wb8 [(.r 0)]),q1 5 1])
(.seq (jr [q0 1,q0 3,q82_ 1 4,q89_ 2 2,qw 0 3,qh 4 1,q1 6 5])
(.block 0 (.loop [true,true,false,true,true,true,true,false,false,false,false] (.seq (.seq (jr [q0 6,q0 1,q0 3,q82_ 2 4,q89_ 3 2,qw 1 4,qc 5 1,js 9 (.bin false .leq (.r 0) (.r 6))])
(.cond (.v 9) .skip (.exit 0)))
(.seq (.block 1 (.seq (jr [jn (.callm wbg [(.v 4)]),q0 5,jn (.bin false .sub (.r 1) (.c (.int .u64 1))),jn (.bin false .and (.r 0) (.r 2)),jn (.conv .i64 (.r 3)),q1 7 4])
(.seq (.seq (jr [q0 7,q0 3,q99_ 10 0 1])
(.cond (.v 10) (jr [q0 7,q0 3,q53_ 0 1,q1 7 2]) .skip))
(.region true [] [q0 0,q0 6,q0 0,q0 1,q0 7,qw 3 4,q0 0,q0 1,q0 7,qw 7 8,q3 1 6 9,q2 1 10,q0 0,q0 6,q3 1 12 13,q2 1 14,q3 1 0 1,qd 1 16 11,q3 1 2 5,qd 1 18 15]))))
(jr [q0 6,qc 0 1,q1 6 1])))))))) .skip))),
[]⟩
def wh4:IFun:=⟨[0,1,2,3,4,10,11,22],
(.seq (jr [q7 5 0,q7 6 0])
(.seq (.seq (.region true [] [q0 4,q0 0,q0 2,q3 1 1 2,q2 1 3,q0 0,q0 1,q3 1 5 6,q2 1 7,jn (.callv false (.r 0) [(.r 4),(.r 8)]),q57_ 7 9 0])
(.cond (.v 7) (.seq (jr [q0 3,q40_ 0,q2 1 1,qc 2 1,q40_ 0,qd 1 4 3])
(.seq (jr [q0 2,q0 1,q1 5 0,q1 6 1])
.ret)) .skip))
(.seq (jr [q0 1,q0 2,q1 5 0,q1 6 1])
.ret))),
[.v 5,.v 6]⟩
def wh2:IFun:=⟨[0,1,2,3,4,5,12],
(.seq (jr [q7 6 0])
(.seq (jr [q0 0,q0 1,q0 2,q0 4,q0 5,jn (.callm wb9 [(.r 0),(.r 1),(.r 2),(.r 3),(.r 4)]),qa 5,qe 6 0,qe 6 1,q1 1 7,q1 2 8])
(.seq (jr [q0 0,q0 2,q0 3,q0 4,q0 5,jn (.callm wb9 [(.r 0),(.r 1),(.r 2),(.r 3),(.r 4)]),qa 5,qe 6 0,qe 6 1,q1 2 7,q1 3 8])
(.seq (jr [q0 0,q0 1,q0 2,q0 4,q0 5,jn (.callm wb9 [(.r 0),(.r 1),(.r 2),(.r 3),(.r 4)]),qa 5,qe 6 0,qe 6 1,q1 1 7,q1 2 8])
(.seq (jr [q0 2,q1 6 0])
.ret))))),
[.v 6]⟩
def wh1:IFun:=⟨[0,1,2,3,8],
(.seq (jr [q7 4 0])
(.seq (jr [q0 0,q0 1,qh 1 1,q0 1,q0 1,qc 4 1,q0 2,q0 3,jn (.callm wb7 [(.r 0),(.r 2),(.r 3),(.r 5),(.r 6),(.r 7)]),q1 4 8])
.ret)),
[.v 4]⟩
def wgy:IFun:=⟨[0,1,2,3,8,9,10,11,12,13,14,34,36,55,57,60],
(.seq (jr [q7 4 0,q7 5 0])
(.seq (jr [q0 2,q0 1,q53_ 0 1,q1 6 2])
(.seq (jr [js 7 (.alloc t_int [(.int .i64 0)])])
(.seq (jr [q0 1,q0 6,q82_ 1 4,q89_ 2 1,qw 0 3,q1 8 4])
(.seq (jr [q0 1,q0 6,q82_ 1 4,q89_ 2 2,qw 0 3,q1 9 4])
(.seq (jr [q0 1,q0 6,q82_ 1 4,q89_ 2 3,qw 0 3,q1 10 4])
(.seq (.seq (jr [q0 6,q58_ 11 0 8])
(.cond (.v 11) (.seq (.seq (jr [q0 6,q58_ 12 0 50])
(.cond (.v 12) (.seq (jr [q0 0,q0 8,q0 3,jn (.callm wb6 [(.r 0),(.r 1),(.v 7),(.r 2)]),q1 8 3])
(.seq (jr [q0 0,q0 9,q0 3,jn (.callm wb6 [(.r 0),(.r 1),(.v 7),(.r 2)]),q1 9 3])
(jr [q0 0,q0 10,q0 3,jn (.callm wb6 [(.r 0),(.r 1),(.v 7),(.r 2)]),q1 10 3]))) .skip))
(jr [q0 0,q0 8,q0 9,q0 10,q0 3,jn (.callm wb7 [(.r 0),(.r 1),(.r 2),(.r 3),(.v 7),(.r 4)]),q1 9 5])) .skip))
(.seq (jr [js 13 (.load false 1 (.v 7))])
(.block 0 (.seq (jr [q63_ 13 0,q1 14 0])
(.cond (.v 14) (.seq (jr [q0 9,q1 4 0,q7 5 1])
.ret) (.seq (jr [q63_ 13 12,q1 15 0])
(.cond (.v 15) (.seq (jr [q0 9,q1 4 0,q7 5 2])
.ret) (.seq (jr [q0 9,q1 4 0,q7 5 0])
.ret)))))))))))))),
[.v 4,.v 5]⟩
def wh9:IFun:=⟨[0,1,2,8,9,15],
(.seq (jr [q0 1,q1 3 0])
(.seq (jr [q0 2,qh 0 1,q1 4 1])
(.block 0 (.loop [true,false,false,true,true,false] (.seq (.seq (jr [q0 3,q0 4,q41_ 5 0 1])
(.cond (.v 5) .skip (.exit 0)))
(.block 1 (.seq (.region true [] [q0 0,q0 3,q0 0,q0 4,q0 0,q0 4,q3 1 4 5,q2 1 6,q0 0,q0 3,q3 1 8 9,q2 1 10,q3 1 0 1,qd 1 12 7,q3 1 2 3,qd 1 14 11])
(.seq (jr [q0 3,qc 0 1,q1 3 1])
(jr [q0 4,qh 0 1,q1 4 1]))))))))),
[]⟩
def wh5:IFun:=⟨[0,1,2,3,8,9,10,11,12,16,36,41,45,65,69,84,104,109,124],
(.seq (jr [q4 4])
(.seq (jr [q0 1,qc 0 1,q1 5 1])
(.seq (.seq (jr [q7 6 0])
(.block 0 (.loop [true,true,true,true,false,true,true,false,false,false,false,false,false,false,false,false,false,false,false] (.seq (.seq (jr [q0 6,q57_ 9 0 5])
(.cond (.v 9) .skip (.exit 0)))
(.seq (.block 1 (.seq (.block 2 (.loop [true,true,true,true,false,true,true,false,false,false,false,false,false,false,false,false,false,false,false] (.seq (.seq (.region true [] [q0 5,q0 2,jn (.bin false .lss (.r 0) (.r 1)),qa 2,qf 3 3,qf 3 0,qf 3 5,qv 3 1 5 6,qi 3 1 7,qf 3 0,qf 3 5,q68_ 3 10 1,qv 3 1 9 11,qi 3 1 12,q54_ 3 4 8 13,q50_ 3 14 0,q92_ 3 15,qq 10 3 16])
(.cond (.v 10) .skip (.exit 2)))
(.block 3 (jr [q0 5,qc 0 1,q1 5 1])))))
(.seq (.seq (jr [q0 5,q0 2,js 11 (.bin false .eql (.r 0) (.r 1))])
(.cond (.v 11) (.seq (jr [ql 4])
.ret) .skip))
(.seq (.seq (jr [q0 2,q0 1,q53_ 0 1,q57_ 12 2 50])
(.cond (.v 12) (.seq (jr [q4 4])
.ret) .skip))
(.seq (.region true [] [q0 0,q0 5,q0 0,q0 5,qh 3 1,q0 0,q0 5,qh 6 1,q3 1 5 7,q2 1 8,q0 0,q0 5,q3 1 10 11,q2 1 12,q3 1 0 1,qd 1 14 9,q3 1 2 4,qd 1 16 13])
(.seq (.seq (jr [q0 5,q0 1,q53_ 0 1,q58_ 13 2 2])
(.cond (.v 13) (.seq (jr [q0 5,qh 0 1,q1 7 1])
(.block 4 (.loop [true,true,true,true,false,true,true,true,false,false,false,false,false,false,false,false,false,false,false] (.seq (.seq (jr [q0 7,q58_ 14 0 1])
(.cond (.v 14) .skip (.exit 4)))
(.seq (.block 5 (.seq (.seq (.region true [] [q0 3,q0 0,q0 7,q3 1 1 2,q2 1 3,q0 0,q0 7,qh 6 1,q3 1 5 7,q2 1 8,jn (.callv false (.r 0) [(.r 4),(.r 9)]),jn (.bin false .lss (.r 10) (jc 0)),q60_ 15 11])
(.cond (.v 15) (.exit 4) .skip))
(.region true [] [q0 0,q0 7,q0 0,q0 7,qh 3 1,q0 0,q0 7,qh 6 1,q3 1 5 7,q2 1 8,q0 0,q0 7,q3 1 10 11,q2 1 12,q3 1 0 1,qd 1 14 9,q3 1 2 4,qd 1 16 13])))
(jr [q0 7,qh 0 1,q1 7 1])))))) .skip))
(.seq (jr [q0 2,q0 5,q53_ 0 1,q58_ 16 2 2])
(.cond (.v 16) (.seq (jr [q0 5,qc 0 1,q1 8 1])
(.block 6 (.loop [true,true,true,true,false,true,true,false,true,false,false,false,false,false,false,false,false,false,false] (.seq (.seq (jr [q0 8,q0 2,q41_ 17 0 1])
(.cond (.v 17) .skip (.exit 6)))
(.seq (.block 7 (.seq (.seq (.region true [] [q0 3,q0 0,q0 8,q3 1 1 2,q2 1 3,q0 0,q0 8,qh 6 1,q3 1 5 7,q2 1 8,jn (.callv false (.r 0) [(.r 4),(.r 9)]),jn (.bin false .lss (.r 10) (jc 0)),q60_ 18 11])
(.cond (.v 18) (.exit 6) .skip))
(.region true [] [q0 0,q0 8,q0 0,q0 8,qh 3 1,q0 0,q0 8,qh 6 1,q3 1 5 7,q2 1 8,q0 0,q0 8,q3 1 10 11,q2 1 12,q3 1 0 1,qd 1 14 9,q3 1 2 4,qd 1 16 13])))
(jr [q0 8,qc 0 1,q1 8 1])))))) .skip))))))))
(jr [q0 6,qc 0 1,q1 6 1]))))))
(.seq (jr [q4 4])
.ret)))),
[.v 4]⟩
def wh7:IFun:=⟨[0,1,2,3,4,10,11,12,47,65,70],
(.seq (jr [q7 5 0])
(.seq (.region true [] [q0 0,q0 1,q0 0,q0 3,q0 0,q0 3,q3 1 4 5,q2 1 6,q0 0,q0 1,q3 1 8 9,q2 1 10,q3 1 0 1,qd 1 12 7,q3 1 2 3,qd 1 14 11])
(.seq (jr [q0 1,qc 0 1,q0 2,qh 2 1,q1 6 1,q1 7 3])
(.seq (.block 0 (.loop [true,true,false,false,true,false,true,true,false,false,false] (.block 1 (.seq (.block 2 (.loop [true,true,false,false,true,false,true,true,false,false,false] (.seq (.seq (.region true [] [q0 6,q0 7,q91_ 0 1,qa 2,qf 3 4,qf 3 0,qf 3 1,qv 3 1 5 6,qi 3 1 7,qf 3 0,qf 3 6,qv 3 1 9 10,qi 3 1 11,q54_ 3 4 8 12,q50_ 3 13 0,q92_ 3 14,qq 8 3 15])
(.cond (.v 8) .skip (.exit 2)))
(.block 3 (jr [q0 6,qc 0 1,q1 6 1])))))
(.seq (.block 4 (.loop [true,true,false,false,true,false,true,true,false,false,false] (.seq (.seq (.region true [] [q0 6,q0 7,q91_ 0 1,qa 2,qf 3 4,qf 3 0,qf 3 1,qv 3 1 5 6,qi 3 1 7,qf 3 0,qf 3 7,qv 3 1 9 10,qi 3 1 11,q54_ 3 4 8 12,q50_ 3 13 0,qq 9 3 14])
(.cond (.v 9) .skip (.exit 4)))
(.block 5 (jr [q0 7,qh 0 1,q1 7 1])))))
(.seq (.seq (jr [q0 6,q0 7,q101_ 10 0 1])
(.cond (.v 10) (.exit 0) .skip))
(.seq (.region true [] [q0 0,q0 6,q0 0,q0 7,q0 0,q0 7,q3 1 4 5,q2 1 6,q0 0,q0 6,q3 1 8 9,q2 1 10,q3 1 0 1,qd 1 12 7,q3 1 2 3,qd 1 14 11])
(.seq (jr [q0 6,qc 0 1,q1 6 1])
(jr [q0 7,qh 0 1,q1 7 1])))))))))
(.seq (jr [q0 6,q1 5 0])
.ret))))),
[.v 5]⟩
def wh6:IFun:=⟨[0,1,2,3,4,10,11,12,13,47,66,71,120,139,144],
(.seq (jr [q7 5 0,q4 6])
(.seq (.region true [] [q0 0,q0 1,q0 0,q0 3,q0 0,q0 3,q3 1 4 5,q2 1 6,q0 0,q0 1,q3 1 8 9,q2 1 10,q3 1 0 1,qd 1 12 7,q3 1 2 3,qd 1 14 11])
(.seq (jr [q0 1,qc 0 1,q0 2,qh 2 1,q1 7 1,q1 8 3])
(.seq (.block 0 (.loop [true,true,false,false,true,false,false,true,true,false,false,false,false,false,false] (.seq (.seq (.region true [] [q0 7,q0 8,q91_ 0 1,qa 2,qf 3 4,qf 3 0,qf 3 7,qv 3 1 5 6,qi 3 1 7,qf 3 0,qf 3 1,qv 3 1 9 10,qi 3 1 11,q54_ 3 4 8 12,q50_ 3 13 0,qq 9 3 14])
(.cond (.v 9) .skip (.exit 0)))
(.block 1 (jr [q0 7,qc 0 1,q1 7 1])))))
(.seq (.block 2 (.loop [true,true,false,false,true,false,false,true,true,false,false,false,false,false,false] (.seq (.seq (.region true [] [q0 7,q0 8,q91_ 0 1,qa 2,qf 3 4,qf 3 0,qf 3 8,qv 3 1 5 6,qi 3 1 7,qf 3 0,qf 3 1,qv 3 1 9 10,qi 3 1 11,q54_ 3 4 8 12,q50_ 3 13 0,q92_ 3 14,qq 10 3 15])
(.cond (.v 10) .skip (.exit 2)))
(.block 3 (jr [q0 8,qh 0 1,q1 8 1])))))
(.seq (.seq (jr [q0 7,q0 8,q101_ 11 0 1])
(.cond (.v 11) (.seq (.region true [] [q0 0,q0 8,q0 0,q0 1,q0 0,q0 1,q3 1 4 5,q2 1 6,q0 0,q0 8,q3 1 8 9,q2 1 10,q3 1 0 1,qd 1 12 7,q3 1 2 3,qd 1 14 11])
(.seq (jr [q0 8,q1 5 0,ql 6])
.ret)) .skip))
(.seq (.region true [] [q0 0,q0 7,q0 0,q0 8,q0 0,q0 8,q3 1 4 5,q2 1 6,q0 0,q0 7,q3 1 8 9,q2 1 10,q3 1 0 1,qd 1 12 7,q3 1 2 3,qd 1 14 11])
(.seq (jr [q0 7,qc 0 1,q1 7 1])
(.seq (jr [q0 8,qh 0 1,q1 8 1])
(.seq (.block 4 (.loop [true,true,false,false,true,false,false,true,true,false,false,false,false,false,false] (.block 5 (.seq (.block 6 (.loop [true,true,false,false,true,false,false,true,true,false,false,false,false,false,false] (.seq (.seq (.region true [] [q0 7,q0 8,q91_ 0 1,qa 2,qf 3 4,qf 3 0,qf 3 7,qv 3 1 5 6,qi 3 1 7,qf 3 0,qf 3 1,qv 3 1 9 10,qi 3 1 11,q54_ 3 4 8 12,q50_ 3 13 0,qq 12 3 14])
(.cond (.v 12) .skip (.exit 6)))
(.block 7 (jr [q0 7,qc 0 1,q1 7 1])))))
(.seq (.block 8 (.loop [true,true,false,false,true,false,false,true,true,false,false,false,false,false,false] (.seq (.seq (.region true [] [q0 7,q0 8,q91_ 0 1,qa 2,qf 3 4,qf 3 0,qf 3 8,qv 3 1 5 6,qi 3 1 7,qf 3 0,qf 3 1,qv 3 1 9 10,qi 3 1 11,q54_ 3 4 8 12,q50_ 3 13 0,q92_ 3 14,qq 13 3 15])
(.cond (.v 13) .skip (.exit 8)))
(.block 9 (jr [q0 8,qh 0 1,q1 8 1])))))
(.seq (.seq (jr [q0 7,q0 8,q101_ 14 0 1])
(.cond (.v 14) (.exit 4) .skip))
(.seq (.region true [] [q0 0,q0 7,q0 0,q0 8,q0 0,q0 8,q3 1 4 5,q2 1 6,q0 0,q0 7,q3 1 8 9,q2 1 10,q3 1 0 1,qd 1 12 7,q3 1 2 3,qd 1 14 11])
(.seq (jr [q0 7,qc 0 1,q1 7 1])
(jr [q0 8,qh 0 1,q1 8 1])))))))))
(.seq (.region true [] [q0 0,q0 8,q0 0,q0 1,q0 0,q0 1,q3 1 4 5,q2 1 6,q0 0,q0 8,q3 1 8 9,q2 1 10,q3 1 0 1,qd 1 12 7,q3 1 2 3,qd 1 14 11])
(.seq (jr [q0 8,q1 5 0,q4 6])
.ret)))))))))))),
[.v 5,.v 6]⟩
def wh8:IFun:=⟨[0,1,2,3,4,10,11,12,13,14,15,16,17,18,19,20,25,32,39,56,75,80,97,125],
(.seq (jr [ql 5])
(.seq (jr [ql 6])
(.block 0 (.loop [true,true,true,true,true,true,true,false,false,false,false,false,false,false,false,false,false,false,false,false,false,false,false,false] (.block 1 (.seq (jr [q0 2,q0 1,q53_ 0 1,q1 7 2])
(.seq (.seq (jr [q0 7,js 16 (.bin false .leq (.r 0) (jc 12))])
(.cond (.v 16) (.seq (jr [q0 0,q0 1,q0 2,q0 4,jn (.callm wb5 [(.r 0),(.r 1),(.r 2),(.r 3)])])
.ret) .skip))
(.seq (.seq (jr [q0 3,q87_ 17 0 0])
(.cond (.v 17) (.seq (jr [q0 0,q0 1,q0 2,q0 4,jn (.callm wb4 [(.r 0),(.r 1),(.r 2),(.r 3)])])
.ret) .skip))
(.seq (.seq (jr [q0 5,q60_ 18 0])
(.cond (.v 18) (.seq (jr [q0 0,q0 1,q0 2,q0 4,jn (.callm wb2 [(.r 0),(.r 1),(.r 2),(.r 3)])])
(jr [q0 3,qh 0 1,q1 3 1])) .skip))
(.seq (jr [q0 0,q0 1,q0 2,q0 4,jn (.callm wb3 [(.r 0),(.r 1),(.r 2),(.r 3)]),qa 4,qe 5 0,qe 5 1,q1 8 6,q1 9 7])
(.seq (.seq (jr [q0 9,q87_ 19 0 2])
(.cond (.v 19) (.seq (jr [q0 0,q0 1,q0 2,q0 4,jn (.callm wbe [(.r 0),(.r 1),(.r 2),(.r 3)])])
(.seq (jr [q0 2,qh 0 1,q0 8,q0 1,q53_ 2 3,q53_ 1 4,q1 8 5])
(jr [q7 9 1]))) .skip))
(.seq (.seq (jr [q0 5,qa 0,qf 1 6,qp 1 2,qa 3,qf 4 9,q102_ 4 5 1,qq 20 4 6])
(.cond (.v 20) (.seq (jr [q0 0,q0 1,q0 2,q0 4,js 21 (.callm wba [(.r 0),(.r 1),(.r 2),(.r 3)])])
(.cond (.v 21) .ret .skip)) .skip))
(.seq (.seq (.region true [] [q0 1,jn (.bin false .gtr (.r 0) (jc 0)),qa 1,qf 2 4,qf 2 0,qf 2 1,q68_ 2 5 1,qv 2 1 4 6,qi 2 1 7,qf 2 0,qf 2 8,qv 2 1 9 10,qi 2 1 11,q54_ 2 3 8 12,q50_ 2 13 0,q92_ 2 14,qq 22 2 15])
(.cond (.v 22) (.seq (jr [q0 0,q0 1,q0 2,q0 8,q0 4,jn (.callm wbc [(.r 0),(.r 1),(.r 2),(.r 3),(.r 4)]),q1 10 5])
(.seq (jr [q0 10,q1 1 0])
(.exit 1))) .skip))
(.seq (jr [q0 0,q0 1,q0 2,q0 8,q0 4,jn (.callm wbb [(.r 0),(.r 1),(.r 2),(.r 3),(.r 4)]),qa 5,qe 6 0,qe 6 1,q1 11 7,q1 12 8])
(.seq (jr [q0 12,q1 6 0])
(.seq (jr [q0 11,q0 1,q53_ 0 1,q0 2,q0 11,q53_ 3 4,q1 13 2,q1 14 5])
(.seq (jr [q0 7,q82_ 0 8,q1 15 1])
(.seq (jr [q0 13,q0 14,q41_ 23 0 1])
(.cond (.v 23) (.seq (jr [q0 13,q0 15,jn (.bin false .geq (.r 0) (.r 1)),q1 5 2])
(.seq (jr [q0 0,q0 1,q0 11,q0 3,q0 4,jn (.callm wbd [(.r 0),(.r 1),(.r 2),(.r 3),(.r 4)])])
(jr [q0 11,qc 0 1,q1 1 1]))) (.seq (jr [q0 14,q0 15,jn (.bin false .geq (.r 0) (.r 1)),q1 5 2])
(.seq (jr [q0 0,q0 11,qc 1 1,q0 2,q0 3,q0 4,jn (.callm wbd [(.r 0),(.r 2),(.r 3),(.r 4),(.r 5)])])
(jr [q0 11,q1 2 0])))))))))))))))))))))),
[]⟩
def wgw:IFun:=⟨[0,1,4],
(.seq (jr [q0 0,qm 0,q1 2 1])
(jr [q0 0,q0 2,q0 2,q88_ 2,jn (.call false waa [(.r 3)]),q0 1,jn (.callm wbd [(.r 0),(jc 0),(.r 1),(.r 4),(.r 5)])])),
[]⟩
def wf8:IFun:=⟨[0,1,2,3,4,5,6,7,8,9,11,25,26,27,37,38,39,40],
(.seq (jr [q56_ 2 4 0,q77_ 3 2 1,q39_ 4 1 1 1])
(.seq (.region true [(4,1),(4,2),(4,3),(5,1),(5,2),(6,1)] [q9 2 3,q9 2 3,q9 2 3,q9 4 2,jn (.call false w9j [(.r 0),(jc 0),(.c (.bool false))]),jn (.call false w9l [(.r 3)]),q95_ 2 5,jn (.call false w9j [(.r 1),(.r 6),(.c (.bool true))]),q1 5 4,q1 6 7])
(.seq (jr [q5 0 3,q2 1 0,qm 1,q75_ 1 0 2,q1 7 3])
(.seq (.seq (jr [q0 7,q59_ 11 0,q7 12 0])
(.block 0 (.loop [false,false,false,true,true,true,true,true,false,false,false,true,true,false,false,false,false,false] (.seq (jr [q6 13 12 11])
(.seq (.cond (.v 13) .skip (.exit 0))
(.seq (.block 1 (.seq (jr [q0 12,q1 8 0])
(jr [q0 7,q0 8,q0 8,q3 1 0 1,qd 1 3 2])))
(jr [q8 12 1,q1 12 0])))))))
(.seq (jr [q0 7,jn (.mkfn w9c [(.v 3)]),jn (.callm wb1 [(.r 0),(.r 1)])])
(.seq (jr [q39_ 9 1 1 1])
(.seq (.seq (jr [q48_ 14 7,qo 15 14,q7 16 0])
(.block 2 (.loop [false,false,false,true,true,true,true,false,false,true,false,false,false,false,true,true,true,false] (.seq (jr [q6 17 16 15])
(.seq (.cond (.v 17) .skip (.exit 2))
(.seq (.block 3 (.seq (jr [qk 1 14 16,q2 1 0,q1 10 1])
(.seq (.region true [(7,1),(8,1)] [q5 0 9,q2 1 0,q5 0 3,q2 1 2,q0 10,q3 1 3 4,q2 1 5,q84_ 6,q61_ 1 7,q74_ 1 1 8,q5 0 9,qd 1 10 9])
(.seq (.region true [(6,1)] [q5 1 9,q2 1 0,q0 5,q0 10,q3 1 2 3,q2 1 4,qt 1 5,q38_ 1 1 6,q5 1 9,qd 1 8 7])
(.region true [(6,1)] [q5 2 9,q2 1 0,q0 6,q0 10,q3 1 2 3,q2 1 4,qt 1 5,q38_ 1 1 6,q5 2 9,qd 1 8 7])))))
(jr [q8 16 1,q1 16 0])))))))
(.seq (jr [q9 3 9,qb 3 4 0])
.ret)))))))),
[.cell true 3 4]⟩
def wef:IFun:=⟨[0,1,2,4,5,6,7,11,21],
(.seq (jr [q56_ 2 4 0,q39_ 3 1 1 1,q4 4])
(.seq (.seq (jr [q9 4 2,q0 1,jn (.call false w9p [(.r 0),(.r 1)]),q60_ 7 2])
(.cond (.v 7) (.seq (jr [q76_ 1 1 1,qb 3 3 0,q4 4])
.ret) .skip))
(.seq (jr [q9 4 2,q0 1,jn (.call false w9f [(.r 0),(.r 1)]),qa 2,qe 3 0,qe 3 1,qx 5 0 0 1 0,q36_ 6 1 3,qb 4 5 4,qb 2 6 5])
(.seq (.seq (jr [q5 0 5,q2 1 0,q100_ 8 1 1])
(.cond (.v 8) (.seq (jr [q76_ 1 1 1,qb 3 3 0,q4 4])
.ret) .skip))
(.seq (jr [q9 4 2,q9 2 6,jn (.call false w9b [(.r 0),(.r 1)]),qb 3 3 2,ql 4])
.ret))))),
[.cell true 3 3,.v 4]⟩
def wij:IFun:=⟨[0,1,2,3,6,7,8,9,10,12,13,14,20,21,22,35,42,43,44,45,52,66],
(.seq (jr [q77_ 3 2 0,qn 4 1])
(.seq (jr [q5 0 3,q2 1 0,qm 1,q75_ 1 0 2,q1 5 3])
(.seq (.seq (jr [q0 5,q59_ 12 0,q7 13 0])
(.block 0 (.loop [false,true,true,true,false,true,false,false,false,false,false,false,true,true,false,false,false,false,false,false,false,false] (.seq (jr [q6 14 13 12])
(.seq (.cond (.v 14) .skip (.exit 0))
(.seq (.block 1 (.seq (jr [q0 13,q1 6 0])
(jr [q0 5,q0 6,q3 1 0 1,jn (.store 1 (.r 2) (jc (-1)))])))
(jr [q8 13 1,q1 13 0])))))))
(.seq (jr [q0 5,q0 1,q3 1 0 1,q97_ 1 2 0])
(.seq (jr [q0 1,qt 1 0,q1 7 1])
(.seq (.block 2 (.loop [false,false,true,true,false,true,false,true,false,false,false,false,false,false,false,false,false,false,false,false,false,false] (.seq (.seq (jr [q0 7,qm 0,q65_ 15 1 0])
(.cond (.v 15) .skip (.exit 2)))
(.block 3 (.seq (jr [q0 7,jn (.iaddr 1 (.r 0) (jc 0)),q2 1 1,q1 8 2])
(.seq (jr [q0 7,jn (.slq 1 (.r 0) (jc 1)),q1 7 1])
(.seq (jr [q5 1 3,js 16 (.ldf (.r 0)),qo 17 16,q7 18 0])
(.block 4 (.loop [false,false,true,true,false,true,false,true,true,false,false,false,false,false,false,false,true,true,true,false,false,false] (.seq (jr [q6 19 18 17])
(.seq (.cond (.v 19) .skip (.exit 4))
(.seq (.block 5 (.seq (jr [qk 3 16 18,qz 3 0,q46_ 9 0 0 0,qb 3 9 1])
(.seq (.region true [] [q5 0 9,q2 1 0,q5 2 9,q2 1 2,q1 10 1,q1 11 3])
(.seq (.seq (jr [q48_ 20 2])
(.cond (.v 20) (.region true [] [q5 2 9,q2 1 0,q5 0 9,q2 1 2,q1 10 1,q1 11 3]) .skip))
(.seq (jr [q0 10,q0 8,q73_ 0 1,qa 2,qf 3 5,qf 3 11,qv 3 1 4 5,qi 3 1 6,q50_ 3 7 0,qq 21 3 8])
(.cond (.v 21) (.seq (jr [q0 5,q0 11,q0 5,q0 8,q3 1 2 3,q2 1 4,qc 5 1,q3 1 0 1,qd 1 7 6])
(jr [q0 7,q0 11,qt 1 1,jn (.apq t_int 1 (.r 0) (.r 2)),q1 7 3])) .skip))))))
(jr [q8 18 1,q1 18 0])))))))))))))
(.seq (jr [q0 5,q1 4 0])
.ret))))))),
[.v 4]⟩
def whk:IFun:=⟨[0,1,4,5,7,8,9,19,28],
(.seq (jr [q7 2 0])
(.seq (.seq (jr [q0 0,q59_ 4 0,q7 5 0])
(.block 0 (.loop [true,true,false,false,true,true,false,false,false] (.seq (jr [q6 6 5 4])
(.seq (.cond (.v 6) .skip (.exit 0))
(.seq (.block 1 (.seq (jr [q0 5,q1 3 0])
(.seq (.seq (.region true [] [q0 0,q0 3,q3 1 0 1,q2 1 2,q0 1,q0 3,q3 1 4 5,q2 1 6,q41_ 7 3 7])
(.cond (.v 7) (.seq (jr [q86_ 2])
.ret) .skip))
(.seq (.region true [] [q0 0,q0 3,q3 1 0 1,q2 1 2,q0 1,q0 3,q3 1 4 5,q2 1 6,q101_ 8 3 7])
(.cond (.v 8) (.seq (jr [q7 2 1])
.ret) .skip)))))
(jr [q8 5 1,q1 5 0])))))))
(.seq (jr [q7 2 0])
.ret))),
[.v 2]⟩
def whx:IFun:=⟨[0,1,4,5,6,8,9,10,11,12,13,20,27,38],
(.seq (jr [js 2 (.nilrow wle false 1)])
(.seq (jr [js 3 (.nilrow wle false 1)])
(.seq (jr [q4 4])
(.seq (.seq (jr [q48_ 7 0,qo 8 7,q7 9 0])
(.block 0 (.loop [true,true,false,true,true,false,false,true,true,true,false,false,false,false] (.seq (jr [q6 10 9 8])
(.seq (.cond (.v 10) .skip (.exit 0))
(.seq (.block 1 (.seq (jr [qk 1 7 9,q2 1 0,q1 5 1])
(.seq (jr [q0 1,q0 5,jn (.call false wbp [(.r 0),(.r 1)]),q1 6 2])
(.seq (.seq (jr [q0 6,q87_ 11 0 0])
(.cond (.v 11) (.seq (jr [q0 0,q1 2 0])
.ret) .skip))
(.seq (.seq (jr [q0 6,jn (.bin false .lss (.r 0) (jc 0)),qa 1,qf 2 4,q92_ 2 3,qq 12 2 4])
(.cond (.v 12) (.seq (jr [q0 3,q0 1,q61_ 1 1,q74_ 1 0 2,q1 3 3])
(jr [ql 4])) .skip))
(jr [q0 3,q0 5,q61_ 1 1,q74_ 1 0 2,q1 3 3]))))))
(jr [q8 9 1,q1 9 0])))))))
(.seq (.seq (jr [q0 4,q60_ 13 0])
(.cond (.v 13) (jr [q0 3,q0 1,q61_ 1 1,q74_ 1 0 2,q1 3 3]) .skip))
(.seq (jr [q0 3,q1 2 0])
.ret)))))),
[.v 2]⟩
def whc:IFun:=⟨[0,1,2,4,5,6,7,8,9,10,12,13,14,16,18,19,32,56,57,58,59,70,71,72,73],
(.seq (jr [q56_ 2 4 0,q39_ 3 1 1 1,q4 4])
(.seq (jr [q9 4 2,q0 1,jn (.call false wbi [(.r 0),(.r 1)]),qa 2,qe 3 0,qe 3 1,qx 5 0 0 1 0,qb 4 5 4,q1 6 5])
(.seq (.seq (jr [q0 6,q79_ 0,qa 1,qs 2 0 5,qg 2 1 3,jf 2 (.bin false .neq (.r 4) (jc 1)),qr 16 2 5])
(.cond (.v 16) (.seq (jr [q76_ 1 1 1,qb 3 3 0,q4 4])
.ret) .skip))
(.seq (jr [q9 4 2,jn (.call false wcl [(.r 0)]),qa 1,qe 2 0,qe 2 1,q1 7 3,q1 8 4])
(.seq (jr [q5 0 2,qz 2 0,q0 7,q0 1,jn (.call false wcf [(.r 1),(.r 2),(.r 3)]),qa 4,qe 5 0,qe 5 1,q36_ 9 1 3,qb 2 9 6,qa 7])
(.seq (jr [q9 2 9,jn (.call false wcm [(.r 0),(jc 0),(.c (.bool false))]),q1 10 1])
(.seq (.region true [(4,0)] [q9 2 9,q5 0 9,q2 1 1,q0 8,jn (.call false wcg [(.r 2),(.r 3)]),jn (.call false wcm [(.r 0),(.r 4),(.c (.bool true))]),q1 11 5])
(.seq (jr [q39_ 12 1 1 1])
(.seq (.seq (jr [q5 0 9,q37_ 17 1 0,qo 18 17,q7 19 0])
(.block 0 (.loop [false,false,false,true,false,false,false,false,false,true,true,true,true,false,false,false,false,true,true,true,false,false,false,false,false] (.seq (jr [q6 20 19 18])
(.seq (.cond (.v 20) .skip (.exit 0))
(.seq (.block 1 (.seq (jr [qk 1 17 19,q2 1 0,q1 13 1])
(.region true [(3,1)] [q5 0 12,q2 1 0,q0 13,jn (.call false wc2 [(.r 2)]),jn (.call false wc1 [(.r 1),(.r 3)]),q5 0 12,qd 1 5 4])))
(jr [q8 19 1,q1 19 0])))))))
(.seq (.seq (jr [q5 0 12,q37_ 21 1 0,qo 22 21,q7 23 0])
(.block 2 (.loop [false,false,false,true,false,false,false,false,false,true,true,true,true,false,false,false,false,false,false,false,false,true,true,true,false] (.seq (jr [q6 24 23 22])
(.seq (.cond (.v 24) .skip (.exit 2))
(.seq (.block 3 (.seq (jr [qk 1 21 23,q2 1 0,q1 14 1])
(.seq (jr [q5 0 9,q2 1 0,q0 14,jn (.call false wcg [(.r 1),(.r 2)]),q1 15 3])
(.seq (.region true [(6,1)] [q5 1 12,q2 1 0,q0 10,q0 15,q3 1 2 3,q2 1 4,qt 1 5,q38_ 1 1 6,q5 1 12,qd 1 8 7])
(.region true [(6,1)] [q5 2 12,q2 1 0,q0 11,q0 15,q3 1 2 3,q2 1 4,qt 1 5,q38_ 1 1 6,q5 2 12,qd 1 8 7])))))
(jr [q8 23 1,q1 23 0])))))))
(.seq (jr [q9 3 12,qb 3 3 0,ql 4])
.ret))))))))))),
[.cell true 3 3,.v 4]⟩
def wg5:IFun:=⟨[0,1,4,5,10,12,13,14,24],
(.seq (jr [q4 2])
(.seq (.seq (jr [q0 0,qm 0,q0 1,qm 2,q66_ 4 1 3])
(.cond (.v 4) (.seq (jr [q4 2])
.ret) .skip))
(.seq (.seq (jr [q0 0,q59_ 5 0,q7 6 0])
(.block 0 (.loop [true,true,false,false,false,true,true,false,false] (.seq (jr [q6 7 6 5])
(.seq (.cond (.v 7) .skip (.exit 0))
(.seq (.block 1 (.seq (jr [q0 6,q1 3 0])
(.seq (.region true [] [q0 0,q0 3,q3 1 0 1,q2 1 2,q0 1,q0 3,q3 1 4 5,q2 1 6,q66_ 8 3 7])
(.cond (.v 8) (.seq (jr [q4 2])
.ret) .skip))))
(jr [q8 6 1,q1 6 0])))))))
(.seq (jr [ql 2])
.ret)))),
[.v 2]⟩
def wg7:IFun:=⟨[0,1,2,3,4],
(.seq (jr [js 2 (.box wlc 4 (.v 0)),js 3 (.box wlc 4 (.v 1)),q4 4])
(.seq (jr [q5 0 2,q2 1 0,q5 0 3,q2 1 2,q73_ 1 3,qa 4,q47_ 5 1 2,qi 5 1 6,q47_ 5 1 3,qi 5 1 8,q67_ 5 7 9,qp 5 10,qa 11,q47_ 12 2 2,qi 12 1 13,q47_ 12 2 3,qi 12 1 15,jt 12 (.call false wa7 [(.r 14),(.r 16)]),qp 12 17,qa 18,q47_ 19 3 2,qi 19 1 20,q47_ 19 3 3,qi 19 1 22,q67_ 19 21 23,qp 19 24,q1 4 25])
.ret)),
[.v 4]⟩
def wg6:IFun:=⟨[0,1,4,5,10,12,13,14,25],
(.seq (jr [q4 2])
(.seq (.seq (jr [q0 0,qm 0,q0 1,qm 2,q66_ 4 1 3])
(.cond (.v 4) (.seq (jr [q4 2])
.ret) .skip))
(.seq (.seq (jr [q0 0,q59_ 5 0,q7 6 0])
(.block 0 (.loop [true,true,false,false,false,true,true,false,false] (.seq (jr [q6 7 6 5])
(.seq (.cond (.v 7) .skip (.exit 0))
(.seq (.block 1 (.seq (jr [q0 6,q1 3 0])
(.seq (.region true [] [q0 0,q0 3,q3 1 0 1,q2 1 2,q0 1,q0 3,q3 1 4 5,q2 1 6,jn (.call false wa7 [(.r 3),(.r 7)]),q60_ 8 8])
(.cond (.v 8) (.seq (jr [q4 2])
.ret) .skip))))
(jr [q8 6 1,q1 6 0])))))))
(.seq (jr [ql 2])
.ret)))),
[.v 2]⟩
def wg4:IFun:=⟨[0,1,2,3,4],
(.seq (jr [js 2 (.box wl7 3 (.v 0)),js 3 (.box wl7 3 (.v 1)),q4 4])
(.seq (jr [q5 0 2,q2 1 0,q5 0 3,q2 1 2,jn (.call false wa8 [(.r 1),(.r 3)]),qa 4,q47_ 5 1 2,qi 5 1 6,q47_ 5 1 3,qi 5 1 8,jt 5 (.call false wa7 [(.r 7),(.r 9)]),qp 5 10,qa 11,q47_ 12 2 2,qi 12 1 13,q47_ 12 2 3,qi 12 1 15,jt 12 (.call false wa7 [(.r 14),(.r 16)]),qp 12 17,q1 4 18])
.ret)),
[.v 4]⟩
def wgt:IFun:=⟨[0,2,3,4,7,15],
(.seq (jr [q7 1 0])
(.seq (.seq (jr [q0 0,qm 0,q57_ 4 1 1])
(.cond (.v 4) (jr [jn (.bad),jn (.bad)]) .skip))
(.seq (jr [q0 0,jn (.iaddr 1 (.r 0) (jc 0)),q2 1 1,q1 2 2])
(.seq (.seq (jr [q7 3 1])
(.block 0 (.loop [true,false,true,true,false,false] (.seq (.seq (jr [q0 3,q0 0,qm 1,q41_ 5 0 2])
(.cond (.v 5) .skip (.exit 0)))
(.seq (.block 1 (jr [q0 2,q0 0,q0 3,q3 1 1 2,q2 1 3,jn (.mnmx false (.r 0) (.r 4)),q1 2 5]))
(jr [q0 3,qc 0 1,q1 3 1]))))))
(.seq (jr [q0 2,q1 1 0])
.ret))))),
[.v 1]⟩
def wer:IFun:=⟨[0,1,4],
(.seq (jr [q4 2])
(.seq (jr [q0 0,jn (.call false wa2 [(.r 0),(jc 1),(jc 16)]),qa 1,qf 2 1,q96_ 2 3,qf 2 0,q67_ 2 4 5,qp 2 6,qa 7,qf 8 1,jt 8 (.call false w97 [(.r 9),(jc 0),(jc 50)]),qp 8 10,q1 2 11])
.ret)),
[.v 2]⟩
def wei:IFun:=⟨[0,1,2,4,5,6,7,39,41,42,43,44,66],
(.seq (jr [js 2 (.box wl7 3 (.v 0)),q4 3])
(.seq (jr [q5 0 2,q2 1 0,qm 1,q1 4 2])
(.seq (.seq (jr [q0 4,jn (.call false wa2 [(.r 0),(jc 1),(jc 400)]),q79_ 1,qa 2,qs 3 1 2,qg 3 1 4,q72_ 3 5,qy 3 4,q78_ 3 6 7,qj 3 8,qa 9,qs 10 2 2,qg 10 1 11,q72_ 10 12,qy 10 4,q78_ 10 13 14,qj 10 15,qa 16,qs 17 1 2,qg 17 1 18,jf 17 (.call false wax [(.r 19)]),jf 17 (.bin false .lss (.r 20) (jc 0)),qj 17 21,qa 22,qs 23 2 2,qg 23 1 24,jf 23 (.call false wax [(.r 25)]),jf 23 (.bin false .lss (.r 26) (jc 0)),qr 7 23 27])
(.cond (.v 7) (.seq (jr [q4 3])
.ret) .skip))
(.seq (.seq (jr [q5 0 2,q37_ 8 1 0,qo 9 8,q7 10 0])
(.block 0 (.loop [false,true,true,false,false,false,false,false,true,true,true,false,false] (.seq (jr [q6 11 10 9])
(.seq (.cond (.v 11) .skip (.exit 0))
(.seq (.block 1 (.seq (jr [q0 10,qk 1 8 10,q2 1 1,q1 5 0,q1 6 2])
(.seq (jr [q0 1,q0 6,jn (.call false w8w [(.r 0),(.r 1)]),q79_ 2,qa 3,qy 4 5,q98_ 4 5 0,jf 4 (.mov (.r 6)),q47_ 7 0 2,qi 7 1 8,qf 7 5,q68_ 7 10 1,qv 7 1 9 11,qi 7 1 12,qf 7 6,jt 7 (.call false wah [(.r 13),(.r 14)]),jt 7 (.bin false .geq (.r 15) (jc 0)),jf 4 (.pick (.r 7) (.r 16) (.c (.bool false))),qr 12 4 17])
(.cond (.v 12) (.seq (jr [q4 3])
.ret) .skip))))
(jr [q8 10 1,q1 10 0])))))))
(.seq (jr [ql 3])
.ret))))),
[.v 3]⟩
def weh:IFun:=⟨[0,1,3],
(.seq (jr [q4 2])
(.seq (jr [q0 0,q64_ 1 1,jn (.call false wap [(.r 0),(.r 1)]),q1 2 2])
.ret)),
[.v 2]⟩
def weg:IFun:=⟨[0,1,2,3,4],
(.seq (jr [js 2 (.box wl7 3 (.v 0)),js 3 (.box wle 1 (.v 1)),q7 4 0])
(.seq (jr [q5 0 2,q2 1 0,jn (.mkfn w8m [(.v 3)]),jn (.call false wau [(.r 1),(.r 2)]),q1 4 3])
.ret)),
[.v 4]⟩
def wgj:IFun:=⟨[0,1,4],
(.seq (jr [q4 2])
(.seq (jr [q0 0,q0 1,jn (.call false wav [(.r 0),(.r 1)]),q81_ 2 0,q1 2 3])
.ret)),
[.v 2]⟩
def wfb:IFun:=⟨[0,1,3],
(.seq (jr [q4 2])
(.seq (jr [q0 0,q9 4 1,jn (.call false w9l [(.r 1)]),jn (.call false w9t [(.r 0),(.r 2)]),q1 2 3])
.ret)),
[.v 2]⟩
def wgi:IFun:=⟨[0,1,4],
(.seq (jr [q4 2])
(.seq (jr [q0 0,q0 1,jn (.call false wau [(.r 0),(.r 1)]),q81_ 2 0,q1 2 3])
.ret)),
[.v 2]⟩
def wfa:IFun:=⟨[0,1,2,3,4,5,6,7,8,9,10,11,12,14,15,16,17,18,24,34,48,49,50,51,58,59,60,61,75,131,132,133,134,135,145,163,165],
(.seq (jr [q56_ 2 4 0,js 3 (.box wl7 3 (.v 1)),q7 4 0])
(.seq (.seq (jr [q9 3 3,q5 0 2,qu 0 1,q2 1 2,jn (.call false w8n [(.r 0),(.r 3)]),q60_ 18 4])
(.cond (.v 18) (.seq (jr [q7 4 1])
.ret) .skip))
(.seq (.region true [(4,0),(4,2),(4,3),(5,2),(5,3),(6,2)] [q9 3 3,q9 4 2,q9 3 3,q9 4 2,jn (.call false wa0 [(.r 1)]),jn (.call false w8l [(.r 0),(.r 4)]),jn (.call false w9l [(.r 3)]),jn (.call false w8l [(.r 2),(.r 6)]),q1 5 5,q1 6 7])
(.seq (.seq (jr [q0 5,q57_ 19 0 0])
(.cond (.v 19) (.seq (jr [q7 4 2])
.ret) .skip))
(.seq (jr [q5 0 3,q2 1 0,qm 1,q1 7 2])
(.seq (.region true [] [q0 7,q49_ 1 0,q0 7,q49_ 1 2,q5 0 2,qu 1 4,q2 1 5,qm 6,q49_ 1 7,q1 8 1,q1 9 3,q1 10 8])
(.seq (.seq (jr [q5 0 3,q37_ 20 1 0,qo 21 20,q7 22 0])
(.block 0 (.loop [false,false,true,true,false,true,true,false,true,true,true,false,false,false,false,false,false,false,false,false,true,true,true,false,false,false,false,false,false,false,false,false,false,false,false,false,false] (.seq (jr [q6 23 22 21])
(.seq (.cond (.v 23) .skip (.exit 0))
(.seq (.block 1 (.seq (jr [q0 22,qk 1 20 22,q2 1 1,q1 11 0,q1 12 2])
(.seq (jr [q5 0 2,qz 2 0,q0 12,js 24 (.call false w9k [(.r 1),(.r 2)]),qo 25 24,q7 26 0])
(.block 2 (.loop [false,false,true,true,false,true,true,false,true,true,true,true,true,false,false,false,false,false,false,false,true,true,true,false,true,true,true,false,false,false,false,false,false,false,false,false,false] (.seq (jr [q6 27 26 25])
(.seq (.cond (.v 27) .skip (.exit 2))
(.seq (.block 3 (.seq (jr [qk 1 24 26,q2 1 0,q1 13 1])
(.seq (.region true [(8,0)] [q9 3 3,q5 0 2,qu 1 1,q2 1 2,q0 13,q3 3 3 4,qz 3 5,q0 12,jn (.call false w9n [(.r 6),(.r 7)]),jn (.call false w8l [(.r 0),(.r 8)]),q1 14 9])
(.seq (.seq (jr [q0 14,q57_ 28 0 0])
(.cond (.v 28) (.seq (jr [q7 4 3])
.ret) .skip))
(.seq (jr [q0 10,q0 13,q3 1 0 1,q52_ 1 2])
(.seq (.region true [] [q0 8,q0 14,q0 8,q0 14,q3 1 2 3,q2 1 4,qa 5,qs 6 1 3,qg 6 1 7,qy 6 11,q71_ 6 1 8 9,qg 6 1 10,qs 6 1 3,qg 6 1 12,qy 6 14,q71_ 6 1 13 14,qg 6 1 15,jf 6 (.bin false .lss (.r 11) (.r 16)),qj 6 17,q3 1 0 1,qd 1 19 18])
(.region true [] [q0 9,q0 11,q0 9,q0 11,q3 1 2 3,q2 1 4,qa 5,qs 6 2 3,qg 6 1 7,qy 6 14,q71_ 6 1 8 9,qg 6 1 10,qs 6 2 3,qg 6 1 12,qy 6 11,q71_ 6 1 13 14,qg 6 1 15,jf 6 (.bin false .lss (.r 11) (.r 16)),qj 6 17,q3 1 0 1,qd 1 19 18])))))))
(jr [q8 26 1,q1 26 0])))))))))
(jr [q8 22 1,q1 22 0])))))))
(.seq (jr [q0 8,q0 5,q5 1 3,q2 1 2,q0 5,q3 1 3 4,q2 1 5,q80_ 6 0,q3 1 0 1,qd 1 8 7])
(.seq (.seq (jr [q0 8,js 29 (.call false wam [(.r 0),(.c (.bool false))])])
(.cond (.v 29) (.seq (jr [q7 4 4])
.ret) .skip))
(.seq (.seq (jr [q48_ 30 9,qo 31 30,q7 32 0])
(.block 4 (.loop [false,false,true,true,false,false,true,false,false,false,true,false,false,false,false,false,false,false,false,false,false,false,false,false,false,false,false,false,false,false,true,true,true,false,false,false,false] (.seq (jr [q6 33 32 31])
(.seq (.cond (.v 33) .skip (.exit 4))
(.seq (.block 5 (.seq (jr [q0 32,qk 1 30 32,q2 1 1,q1 15 0,q1 16 2])
(.seq (jr [q0 15,q0 6,jn (.bin false .neq (.r 0) (.r 1)),qa 2,qf 3 16,q92_ 3 4,qq 34 3 5])
(.cond (.v 34) (.seq (jr [q7 4 5])
.ret) .skip))))
(jr [q8 32 1,q1 32 0])))))))
(.seq (jr [q5 0 3,q2 1 0,jn (.mkfn w9e [(.v 2)]),jn (.call false wal [(.r 1),(.r 2)]),q1 17 3])
(.seq (.seq (jr [q0 17,qa 0,qy 1 6,jf 1 (.bin false .lss (.r 2) (jc 0)),qj 1 3,qa 4,qs 5 2 3,qg 5 1 6,qy 5 6,q71_ 5 1 7 8,qg 5 1 9,jf 5 (.bin false .neq (.r 10) (jc 0)),qr 35 5 11])
(.cond (.v 35) (.seq (jr [q7 4 6])
.ret) .skip))
(.seq (.seq (jr [q0 10,js 36 (.call false wam [(.r 0),(.c (.bool false))])])
(.cond (.v 36) (.seq (jr [q7 4 7])
.ret) .skip))
(.seq (jr [q7 4 0])
.ret)))))))))))))),
[.v 4]⟩
def wej:IFun:=⟨[0,1,2,3,4,5,8],
(.seq (jr [q56_ 2 4 0,js 3 (.box wl7 3 (.v 1)),q7 4 0,q4 5])
(.seq (.seq (jr [q9 4 2,jn (.call false w8v [(.r 0)]),q60_ 6 1])
(.cond (.v 6) (.seq (jr [q7 4 0,q4 5])
.ret) .skip))
(.seq (jr [q9 4 2,q9 3 3,jn (.call false w9d [(.r 0),(.r 1)]),q1 4 2,ql 5])
.ret))),
[.v 4,.v 5]⟩
def wg3:IFun:=⟨[0,2,3,5,6,7,8,9],
(.seq (jr [q7 1 0])
(.seq (jr [q7 2 0])
(.seq (.seq (jr [q48_ 4 0,qo 5 4,q7 6 0])
(.block 0 (.loop [false,false,true,false,true,true,true,false] (.seq (jr [q6 7 6 5])
(.seq (.cond (.v 7) .skip (.exit 0))
(.seq (.block 1 (.seq (jr [qk 1 4 6,q2 1 0,q1 3 1])
(jr [q0 2,jn (.bin false .mul (jc 31) (.r 0)),q0 3,jn (.conv .i64 (.r 2)),qw 1 3,jn (.bin false .rem (.r 4) (jc 1000003)),q1 2 5])))
(jr [q8 6 1,q1 6 0])))))))
(.seq (jr [q0 2,q1 1 0])
.ret)))),
[.v 1]⟩
def wgl:IFun:=⟨[0,1,2,6,7,16],
(.seq (jr [qn 3 1])
(.seq (jr [q0 0,q0 1,q0 2,q0 0,qm 3,jn (.chk3 (.r 0) (.r 1) (.r 2) (.r 4))])
(.seq (.seq (jr [q0 1,q0 2,js 5 (.bin false .eql (.r 0) (.r 1))])
(.cond (.v 5) (.seq (jr [q0 0,q1 3 0])
.ret) .skip))
(.seq (jr [q0 0,qm 0,q1 4 1])
(.seq (.region true [] [q0 0,q0 1,jn (.slice 1 (.r 0) none (some (.r 1))),q0 0,q0 2,jn (.slice 1 (.r 3) (some (.r 4)) none),q38_ 1 2 5,q1 0 6])
(.seq (jr [q0 0,q0 0,qm 1,q0 4,jn (.slice 1 (.r 0) (some (.r 2)) (some (.r 3))),jn (.clr (.int .i64 0) (.r 4))])
(.seq (jr [q0 0,q1 3 0])
.ret))))))),
[.v 3]⟩
def wem:IFun:=⟨[0,1,2,4,5,6,7,8,9,35,53,54,55,56,62],
(.seq (jr [js 2 (.box wl7 3 (.v 0)),q39_ 3 1 1 1,q4 4])
(.seq (jr [q5 0 2,q2 1 0,qm 1,q1 5 2])
(.seq (.seq (jr [q0 5,jn (.bin false .gtr (.r 0) (jc 400)),qa 1,qs 2 1 2,qg 2 1 3,q72_ 2 4,qy 2 5,q78_ 2 5 6,qj 2 7,qa 8,qs 9 2 2,qg 9 1 10,q72_ 9 11,qy 9 5,q78_ 9 12 13,qj 9 14,qa 15,qy 16 1,qy 16 5,q69_ 16 18 1,jf 16 (.call false wa2 [(.r 17),(jc 0),(.r 19)]),q62_ 16 20,qr 9 16 21])
(.cond (.v 9) (.seq (jr [q76_ 1 1 1,qb 3 3 0,q4 4])
.ret) .skip))
(.seq (.region true [(11,6),(12,6)] [q5 1 2,q2 1 0,q0 1,q0 1,qc 3 1,q5 2 2,q2 1 5,q0 1,q0 1,qc 8 1,q39_ 6 1 1 1,q84_ 1,jn (.callm wao [(.r 11),(.r 2),(.r 4)]),q84_ 6,jn (.callm wao [(.r 13),(.r 7),(.r 9)]),jn (.build [(.nil false 1),(.nil true 1),(.nil true 1)] [(1,1,(.r 12)),(2,1,(.r 14))]),qb 3 6 15])
(.seq (.seq (jr [q5 0 2,q37_ 10 1 0,qo 11 10,q7 12 0])
(.block 0 (.loop [false,true,false,true,false,false,true,false,false,false,true,true,true,false,false] (.seq (jr [q6 13 12 11])
(.seq (.cond (.v 13) .skip (.exit 0))
(.seq (.block 1 (.seq (jr [q0 12,qk 1 10 12,q2 1 1,q1 7 0,q1 8 2])
(.seq (jr [q0 7,q0 1,q66_ 14 0 1])
(.cond (.v 14) (.region true [(3,1),(4,1)] [q5 0 6,q2 1 0,q0 8,q84_ 2,q61_ 1 3,q74_ 1 1 4,q5 0 6,qd 1 6 5]) .skip))))
(jr [q8 12 1,q1 12 0])))))))
(.seq (jr [q9 3 6,qb 3 3 0,ql 4])
.ret)))))),
[.cell true 3 3,.v 4]⟩
def wfp:IFun:=⟨[0,1,2,4],
(.seq (jr [q44_ 2 2 0,q4 3])
(.seq (jr [q9 2 2,jn (.call false w8x [(.r 0)]),qa 1,q47_ 2 0 2,qi 2 1 3,qf 2 1,jt 2 (.call false w8w [(.r 4),(.r 5)]),qp 2 6,q1 3 7])
.ret)),
[.v 3]⟩
def wen:IFun:=⟨[0,1,2,3,6,7,8,9,10,19],
(.seq (jr [q44_ 3 2 0,q36_ 4 1 3,q7 5 0,q4 6])
(.seq (.seq (jr [q9 2 3,q0 1,jn (.call false w9s [(.r 0),(.r 1)]),q79_ 2,qa 3,qy 4 2,jf 4 (.call false wa2 [(.r 5),(jc 1),(jc 400)]),q62_ 4 6,qr 9 4 7])
(.cond (.v 9) (.seq (jr [q83_ 1 3,qb 2 4 0,q7 5 0,q4 6])
.ret) .skip))
(.seq (jr [q9 2 3,q0 1,q0 2,jn (.call false w9m [(.r 0),(.r 1),(.r 2)]),qa 3,qe 4 0,qe 4 1,q36_ 7 1 3,qb 2 7 5,q1 8 6])
(.seq (jr [q9 2 7,q0 8,qb 2 4 0,q1 5 1,ql 6])
.ret)))),
[.cell true 2 4,.v 5,.v 6]⟩
def wfz:IFun:=⟨[0,1,2,3,6,7,8,9,10],
(.seq (jr [q44_ 3 2 0,q36_ 4 1 3,q4 5])
(.seq (jr [q9 2 3,q0 1,q0 2,jn (.call false w8s [(.r 0),(.r 1),(.r 2)]),qa 3,qe 4 0,qe 4 1,qe 4 2,q36_ 6 1 3,qb 2 6 5,q1 7 6,q1 8 7])
(.seq (jr [q9 2 6,q0 8,qa 1,qf 2 7,q102_ 2 3 1,qp 2 4,qb 2 4 0,q1 5 5])
.ret))),
[.cell true 2 4,.v 5]⟩
def wel:IFun:=⟨[0,1,2,3,6,7,8,9,18],
(.seq (jr [q44_ 3 2 0,qn 4 1,q4 5])
(.seq (jr [q9 2 3,q0 1,q0 2,jn (.call false wa1 [(.r 0),(.r 1),(.r 2)]),qa 3,qe 4 0,qe 4 1,q36_ 6 1 3,qb 2 6 5,q1 7 6])
(.seq (.seq (jr [q0 7,q60_ 8 0])
(.cond (.v 8) (.seq (jr [qn 4 1,q4 5])
.ret) .skip))
(.seq (jr [q9 2 6,q9 2 3,jn (.call false w90 [(.r 0),(.r 1)]),q1 4 2,ql 5])
.ret)))),
[.v 4,.v 5]⟩
def wf6:IFun:=⟨[0,1,2,4],
(.seq (jr [q44_ 2 2 0,q4 3])
(.seq (jr [q0 1,qm 0,jn (.bin false .leq (.r 1) (jc 60)),qa 2,qf 3 1,q47_ 3 1 2,qi 3 1 5,q96_ 3 6,q68_ 3 7 1,jt 3 (.call false w97 [(.r 4),(jc 0),(.r 8)]),qp 3 9,q1 3 10])
.ret)),
[.v 3]⟩
def wfr:IFun:=⟨[0,1,2,4],
(.seq (jr [q44_ 2 2 0,q4 3])
(.seq (jr [q0 1,q5 1 2,q2 1 1,qm 2,qh 3 1,jn (.call false wa2 [(.r 0),(jc 0),(.r 4)]),q1 3 5])
.ret)),
[.v 3]⟩
def wfe:IFun:=⟨[0,2,3,6],
(.seq (jr [qn 1 1,q4 2])
(.seq (.seq (jr [q0 0,jn (.call false w97 [(.r 0),(jc 0),(jc 50)]),q60_ 3 1])
(.cond (.v 3) (.seq (jr [qn 1 1,q4 2])
.ret) .skip))
(.seq (jr [q0 0,q1 1 0,ql 2])
.ret))),
[.v 1,.v 2]⟩
def weo:IFun:=⟨[0,1,2,3,6,7,27],
(.seq (jr [q44_ 3 2 0,qn 4 1,q4 5])
(.seq (.seq (jr [q9 2 3,q0 1,jn (.call false w9s [(.r 0),(.r 1)]),q79_ 2,qa 3,q85_ 4 2 3,qy 4 2,jf 4 (.call false w9u [(.r 5),(.r 6)]),q62_ 4 7,qj 4 8,qa 9,qs 10 1 3,qg 10 1 11,qy 10 2,q71_ 10 3 12 13,jf 10 (.load true 3 (.r 14)),qy 10 1,jf 10 (.call false w9q [(.r 15),(.r 16)]),q62_ 10 17,qr 6 10 18])
(.cond (.v 6) (.seq (jr [qn 4 1,q4 5])
.ret) .skip))
(.seq (jr [q5 1 3,q2 1 0,q0 2,q3 3 1 2,qz 3 3,q0 1,jn (.call false w9n [(.r 4),(.r 5)]),jn (.call false w9h [(.r 6)]),qe 7 0,qe 7 1,q1 4 8,q1 5 9])
.ret))),
[.v 4,.v 5]⟩
def wep:IFun:=⟨[0,1,2,3,6,7,8,9,10,11,12,22,25,26,27,28,40],
(.seq (jr [q44_ 3 2 0,qn 4 1,q7 5 0,q4 6])
(.seq (.seq (jr [q9 2 3,q0 1,jn (.call false w9s [(.r 0),(.r 1)]),q79_ 2,qa 3,q85_ 4 2 3,qy 4 2,jf 4 (.call false w99 [(.r 5),(.r 6)]),q62_ 4 7,qr 11 4 8])
(.cond (.v 11) (.seq (jr [qn 4 1,q7 5 0,q4 6])
.ret) .skip))
(.seq (jr [q0 1,q84_ 0,q1 1 1])
(.seq (.seq (jr [q48_ 12 2,qo 13 12,q7 14 0])
(.block 0 (.loop [false,true,true,true,false,false,false,false,false,false,false,false,true,true,true,false,false] (.seq (jr [q6 15 14 13])
(.seq (.cond (.v 15) .skip (.exit 0))
(.seq (.block 1 (.seq (jr [q0 14,qk 1 12 14,q2 1 1,q1 7 0,q1 8 2])
(.seq (jr [q9 2 3,q0 1,q0 8,jn (.call false w8t [(.r 0),(.r 1),(.r 2)]),qa 3,qe 4 0,qe 4 1,q1 9 5,q1 10 6])
(.seq (.seq (jr [q0 10,q60_ 16 0])
(.cond (.v 16) (.seq (jr [q0 1,q0 7,q1 4 0,q1 5 1,ql 6])
.ret) .skip))
(jr [q0 9,q1 1 0])))))
(jr [q8 14 1,q1 14 0])))))))
(.seq (jr [q0 1,q0 2,qm 1,q1 4 0,q1 5 2,ql 6])
.ret))))),
[.v 4,.v 5,.v 6]⟩
def wee:IFun:=⟨[0,1,2,3,4,8,9,10,11,27],
(.seq (jr [q44_ 4 2 0,q4 5,q4 6])
(.seq (jr [q9 2 4,q0 1,q0 2,jn (.call false wa1 [(.r 0),(.r 1),(.r 2)]),qa 3,qe 4 0,qe 4 1,q36_ 7 1 3,qb 2 7 5,q1 8 6])
(.seq (.seq (jr [q0 8,q79_ 0,qa 1,qs 2 0 4,qg 2 1 3,qy 2 3,jf 2 (.call false w8w [(.r 4),(.r 5)]),q62_ 2 6,qr 9 2 7])
(.cond (.v 9) (.seq (jr [q4 5,q4 6])
.ret) .skip))
(.seq (jr [q9 2 7,q0 3,q95_ 0 1,q81_ 2 0,q1 5 3,ql 6])
.ret)))),
[.v 5,.v 6]⟩
def wfw:IFun:=⟨[0,1,2,3,4,6,7,8,9,10,11,12,13,14,15,18,25,70,73],
(.seq (jr [q56_ 3 4 0,js 4 (.box wlc 4 (.v 1)),q4 5])
(.seq (.seq (jr [q5 0 4,q2 1 0,q100_ 15 1 2])
(.cond (.v 15) (.seq (jr [q4 5])
.ret) .skip))
(.seq (.region true [(2,1)] [q9 4 3,q9 4 3,jn (.call false wa0 [(.r 0)]),jn (.call false w9l [(.r 1)]),q1 6 2,q1 7 3])
(.seq (.seq (jr [q5 1 4,q2 1 0,q87_ 16 1 3])
(.cond (.v 16) (.seq (jr [q5 0 3,qz 2 0,q0 6,q0 2,jn (.call false w8q [(.r 1),(.r 2),(.r 3)]),qa 4,qe 5 0,qe 5 1,q1 8 6,q1 9 7])
(.seq (jr [q0 9,qa 0,q47_ 1 2 4,qi 1 1 2,q96_ 1 3,q102_ 1 4 0,qp 1 5,qa 6,qf 7 8,q47_ 7 3 4,qi 7 1 9,jt 7 (.call false wan [(.r 8),(.r 10)]),qp 7 11,q1 5 12])
.ret)) .skip))
(.seq (jr [q5 0 3,qz 2 0,q0 6,q5 2 4,q2 1 3,jn (.call false w8u [(.r 1),(.r 2),(.r 4)]),qa 5,qe 6 0,qe 6 1,qe 6 2,q1 10 7,q1 11 8,q1 12 9])
(.seq (.seq (jr [q0 12,q79_ 0,qa 1,qy 2 11,qs 2 2 4,qg 2 1 4,q72_ 2 5,q78_ 2 3 6,qj 2 7,qa 8,qs 9 3 4,qg 9 1 10,jf 9 (.bin false .neq (.r 11) (jc 0)),qr 17 9 12])
(.cond (.v 17) (.seq (jr [q4 5])
.ret) .skip))
(.seq (.seq (jr [q5 1 4,q2 1 0,q87_ 18 1 1])
(.cond (.v 18) (.seq (jr [q5 0 3,qz 2 0,q0 10,q0 2,q0 7,jn (.call false w8j [(.r 1),(.r 2),(.r 3),(.r 4)]),qa 5,qe 6 0,qe 6 1,q1 13 7,q1 14 8])
(.seq (jr [q0 14,qa 0,qf 1 13,q92_ 1 2,qp 1 3,q1 5 4])
.ret)) .skip))
(.seq (jr [q5 1 4,q2 1 0,q80_ 1 2,qa 2,qf 3 10,qf 3 7,jt 3 (.call false w9t [(.r 4),(.r 5)]),qp 3 6,q1 5 7])
.ret)))))))),
[.v 5]⟩
def weu:IFun:=⟨[0,1,2,3,4,6,7,11],
(.seq (jr [q56_ 3 4 0,js 4 (.box wlc 4 (.v 1)),q4 5,q4 6])
(.seq (.seq (jr [q9 4 3,q0 2,jn (.call false w9p [(.r 0),(.r 1)]),q60_ 7 2])
(.cond (.v 7) (.seq (jr [q4 5,q4 6])
.ret) .skip))
(.seq (jr [q9 4 3,q9 4 4,q0 2,jn (.call false w9y [(.r 0),(.r 1),(.r 2)]),q1 5 3,ql 6])
.ret))),
[.v 5,.v 6]⟩
def wg1:IFun:=⟨[0,1,4,5,6,7,8,9,10,11,12,13,14,15,16,17,18,19,20,21,22,25,84,85,126,132],
(.seq (jr [q4 2])
(.seq (.seq (jr [q0 0,q0 1,js 21 (.call false wa4 [(.r 0),(.r 1)])])
(.cond (.v 21) (.seq (jr [ql 2])
.ret) .skip))
(.seq (jr [q0 0,jn (.call false wbj [(.r 0)]),qa 1,qe 2 0,qe 2 1,q55_ 3 0 3 0 0,qb 4 3 3,q1 4 4])
(.seq (jr [q9 4 3,q0 4,jn (.call false w8p [(.r 0),(.r 1)]),qa 2,qe 3 0,qe 3 1,qx 5 0 0 1 0,qb 4 5 4,q1 6 5])
(.seq (jr [q9 4 3,q0 4,jn (.call false wbi [(.r 0),(.r 1)]),qa 2,qe 3 0,qe 3 1,qx 7 0 0 1 0,qb 4 7 4,q1 8 5])
(.seq (jr [q9 4 3,q0 4,jn (.call false w8k [(.r 0),(.r 1)]),qa 2,qe 3 0,qe 3 1,q39_ 9 1 1 1,qb 3 9 4,q1 10 5])
(.seq (jr [q9 4 3,q0 4,jn (.call false wbh [(.r 0),(.r 1)]),qa 2,qe 3 0,qe 3 1,q39_ 11 1 1 1,qb 3 11 4,q1 12 5])
(.seq (.seq (jr [q0 6,q0 8,jn (.bin true .neq (.r 0) (.r 1)),qa 2,q85_ 3 4 5,q85_ 3 4 7,jf 3 (.call false wa9 [(.r 4),(.r 5)]),q62_ 3 6,qj 3 7,qa 8,qy 9 10,qy 9 12,jf 9 (.bin true .neq (.r 10) (.r 11)),qj 9 12,qa 13,q85_ 14 3 9,q85_ 14 3 11,jf 14 (.call false wa6 [(.r 15),(.r 16)]),q62_ 14 17,qj 14 18,qa 19,qy 20 10,qy 20 6,jf 20 (.mov (.r 22)),q47_ 23 0 5,qi 23 1 24,q102_ 23 25 1,jf 20 (.pick (.r 23) (.r 26) (.c (.bool false))),jf 20 (.bin true .neq (.r 21) (.r 27)),qr 22 20 28])
(.cond (.v 22) (.seq (jr [q4 2])
.ret) .skip))
(.seq (.seq (jr [q48_ 23 10])
(.cond (.v 23) (.seq (jr [q9 4 3,q9 3 9,jn (.call false w8o [(.r 0),(.r 1)]),qa 2,qe 3 0,qe 3 1,q1 13 4,q1 14 5])
(.seq (.region true [(6,0),(6,3)] [q9 3 9,q0 1,q5 0 9,q2 1 2,qm 3,q39_ 15 1 1 1,jn (.call false wa5 [(.r 1)]),jn (.bin false .rem (.r 6) (.r 4)),jn (.call false w8r [(.r 0),(.r 7)]),qa 8,qe 9 0,qe 9 1,qb 3 15 10,q1 16 11])
(.seq (jr [q9 4 3,q9 3 15,jn (.call false w8o [(.r 0),(.r 1)]),qa 2,qe 3 0,qe 3 1,q1 17 4,q1 18 5])
(.seq (jr [q0 14,q79_ 0,qa 1,qy 2 13,jf 2 (.bin false .neq (.r 3) (jc 0)),qj 2 4,qa 5,qy 6 16,q62_ 6 7,qj 6 8,qa 9,qy 10 18,q62_ 10 11,qj 10 12,qa 13,qy 14 17,jf 14 (.bin false .eql (.r 15) (jc 0)),qr 24 14 16])
(.cond (.v 24) (.seq (jr [q4 2])
.ret) .skip))))) .skip))
(.seq (.seq (jr [q0 6,qa 0,q47_ 1 0 5,qi 1 1 2,q102_ 1 3 2,qq 25 1 4])
(.cond (.v 25) (.seq (jr [q9 4 3,q9 4 5,q0 4,jn (.call false w8z [(.r 0),(.r 1),(.r 2)]),qa 3,qe 4 0,qe 4 1,q1 19 5,q1 20 6])
(.seq (jr [q0 20,qa 0,qf 1 19,qp 1 2,q1 2 3])
.ret)) .skip))
(.seq (jr [ql 2])
.ret))))))))))),
[.v 2]⟩
def tbl:List (FuncId×IFun):=[(wa4,wg2),(wbv,whr),(wbx,wht),(wc4,wi1),(wbu,whq),(wby,whu),(wbw,whs),(wbr,whm),(wbt,whp),(wbs,whn),(wbj,whe),(wa2,wg0),(w9o,wfl),(w97,wf4),(w98,wf5),(w8y,wet),(war,wgo),(waj,wgg),(w8x,wes),(waw,wgs),(wan,wgk),(w9x,wfv),(wat,wgp),(wak,wgh),(w9w,wfu),(w9a,wf7),(w9v,wft),(w8v,weq),(w9p,wfm),(w9z,wfx),(wa0,wfy),(w9r,wfo),(w9q,wfn),(w9k,wfh),(w9n,wfk),(wap,wgm),(w93,wey),(wau,wgq),(w92,wex),(w9m,wfj),(w9l,wfi),(w94,wez),(wav,wgr),(w9i,wff),(w9t,wfq),(w9g,wfd),(w96,wf3),(waq,wgn),(wb0,wgv),(w95,wf2),(w91,wew),(wai,wgf),(w90,wev),(w9f,wfc),(w8p,wek),(wc0,whw),(wc3,wi0),(wc5,wi2),(wbm,whh),(wcc,wi9),(wca,wi7),(wcb,wi8),(wbn,whi),(wbz,whv),(wbk,whf),(wcj,wig),(wcd,wia),(wcl,wii),(wc2,whz),(wc7,wi4),(wc8,wi5),(wc9,wi6),(wbo,whj),(wbl,whg),(wc6,wi3),(wcg,wid),(wcf,wic),(wch,wie),(wci,wif),(wbq,whl),(wce,wib),(wck,wih),(wbi,whd),(wae,wgc),(waf,wgd),(wad,wgb),(waz,wgu),(w9j,wfg),(w8i,wed),(w8h,wec),(wah,wge),(w9c,wf9),(wab,wg9),(wac,wga),(waa,wg8),(wb5,wh0),(wbf,wha),(wb4,wgz),(wb8,wh3),(wbg,whb),(wb2,wgx),(wb9,wh4),(wb7,wh2),(wb6,wh1),(wb3,wgy),(wbe,wh9),(wba,wh5),(wbc,wh7),(wbb,wh6),(wbd,wh8),(wb1,wgw),(w9b,wf8),(w8k,wef),(wcm,wij),(wbp,whk),(wc1,whx),(wbh,whc),(wa7,wg5),(wa9,wg7),(wa8,wg6),(wa6,wg4),(wax,wgt),(w8w,wer),(w8n,wei),(w8m,weh),(w8l,weg),(wam,wgj),(w9e,wfb),(wal,wgi),(w9d,wfa),(w8o,wej),(wa5,wg3),(wao,wgl),(w8r,wem),(w9s,wfp),(w8s,wen),(wa1,wfz),(w8q,wel),(w99,wf6),(w9u,wfr),(w9h,wfe),(w8t,weo),(w8u,wep),(w8j,wee),(w9y,wfw),(w8z,weu),(wa3,wg1)]
def F(f:FuncId):Option IFun:=(tbl.find? fun p=>p.1==f).map (·.2)
def exts:List (FuncId×(List PV->Option PV)):=[(wag,w8f)]
def ext(f:FuncId):Option (List PV->Option PV):=(exts.find? fun p=>p.1==f).map (·.2)
noncomputable def C:Orc:=lim F ext
@[go_sem] abbrev Wr(i:IFun)(a:List PV)(M:List Blk)(r:PV×List Blk):Prop:=W C M.length i.body ⟨start i a,M⟩ (Lv M.length i.results r)
@[go_sem] abbrev We(i:IFun)(a:List PV)(M:List Blk)(P:PV×List Blk->Prop):Prop:=W C M.length i.body ⟨start i a,M⟩ (Le' M.length i.results P)
variable {a:List PV}{M:List Blk}{r:PV×List Blk}{P:PV×List Blk->Prop}
theorem w1k(h:Wr wg2 a M r):C wa4 a M=some r:=z8g rfl rfl h
theorem w3v(h:We whr a M P):Lw (C wbv a M) P:=z8d rfl rfl h
theorem w3x(h:We wht a M P):Lw (C wbx a M) P:=z8d rfl rfl h
theorem w40(h:We wi1 a M P):Lw (C wc4 a M) P:=z8d rfl rfl h
theorem w2u(h:Wr wi1 a M r):C wc4 a M=some r:=z8g rfl rfl h
theorem w3u(h:We whq a M P):Lw (C wbu a M) P:=z8d rfl rfl h
theorem w3y(h:We whu a M P):Lw (C wby a M) P:=z8d rfl rfl h
theorem w3w(h:We whs a M P):Lw (C wbw a M) P:=z8d rfl rfl h
theorem w3r(h:We whm a M P):Lw (C wbr a M) P:=z8d rfl rfl h
theorem w3t(h:We whp a M P):Lw (C wbt a M) P:=z8d rfl rfl h
theorem w3s(h:We whn a M P):Lw (C wbs a M) P:=z8d rfl rfl h
theorem w3q(h:We whe a M P):Lw (C wbj a M) P:=z8d rfl rfl h
theorem w1i(h:Wr wg0 a M r):C wa2 a M=some r:=z8g rfl rfl h
theorem w14(h:Wr wfl a M r):C w9o a M=some r:=z8g rfl rfl h
theorem w0o(h:Wr wf4 a M r):C w97 a M=some r:=z8g rfl rfl h
theorem w0p(h:Wr wf5 a M r):C w98 a M=some r:=z8g rfl rfl h
theorem w0f(h:Wr wet a M r):C w8y a M=some r:=z8g rfl rfl h
theorem w23(h:Wr wgo a M r):C war a M=some r:=z8g rfl rfl h
theorem w1v(h:Wr wgg a M r):C waj a M=some r:=z8g rfl rfl h
theorem w0e(h:Wr wes a M r):C w8x a M=some r:=z8g rfl rfl h
theorem w27(h:Wr wgs a M r):C waw a M=some r:=z8g rfl rfl h
theorem w1z(h:Wr wgk a M r):C wan a M=some r:=z8g rfl rfl h
theorem w1d(h:Wr wfv a M r):C w9x a M=some r:=z8g rfl rfl h
theorem w24(h:Wr wgp a M r):C wat a M=some r:=z8g rfl rfl h
theorem w1w(h:Wr wgh a M r):C wak a M=some r:=z8g rfl rfl h
theorem w1c(h:Wr wfu a M r):C w9w a M=some r:=z8g rfl rfl h
theorem w0r(h:Wr wf7 a M r):C w9a a M=some r:=z8g rfl rfl h
theorem w1b(h:Wr wft a M r):C w9v a M=some r:=z8g rfl rfl h
theorem w0c(h:Wr weq a M r):C w8v a M=some r:=z8g rfl rfl h
theorem w15(h:Wr wfm a M r):C w9p a M=some r:=z8g rfl rfl h
theorem w1f(h:Wr wfx a M r):C w9z a M=some r:=z8g rfl rfl h
theorem w1g(h:Wr wfy a M r):C wa0 a M=some r:=z8g rfl rfl h
theorem w17(h:Wr wfo a M r):C w9r a M=some r:=z8g rfl rfl h
theorem w16(h:Wr wfn a M r):C w9q a M=some r:=z8g rfl rfl h
theorem w10(h:Wr wfh a M r):C w9k a M=some r:=z8g rfl rfl h
theorem w13(h:Wr wfk a M r):C w9n a M=some r:=z8g rfl rfl h
theorem w21(h:Wr wgm a M r):C wap a M=some r:=z8g rfl rfl h
theorem w0k(h:Wr wey a M r):C w93 a M=some r:=z8g rfl rfl h
theorem w25(h:Wr wgq a M r):C wau a M=some r:=z8g rfl rfl h
theorem w0j(h:Wr wex a M r):C w92 a M=some r:=z8g rfl rfl h
theorem w12(h:Wr wfj a M r):C w9m a M=some r:=z8g rfl rfl h
theorem w11(h:Wr wfi a M r):C w9l a M=some r:=z8g rfl rfl h
theorem w0l(h:Wr wez a M r):C w94 a M=some r:=z8g rfl rfl h
theorem w26(h:Wr wgr a M r):C wav a M=some r:=z8g rfl rfl h
theorem w0z(h:Wr wff a M r):C w9i a M=some r:=z8g rfl rfl h
theorem w19(h:Wr wfq a M r):C w9t a M=some r:=z8g rfl rfl h
theorem w0x(h:Wr wfd a M r):C w9g a M=some r:=z8g rfl rfl h
theorem w0n(h:Wr wf3 a M r):C w96 a M=some r:=z8g rfl rfl h
theorem w22(h:Wr wgn a M r):C waq a M=some r:=z8g rfl rfl h
theorem w2a(h:Wr wgv a M r):C wb0 a M=some r:=z8g rfl rfl h
theorem w0m(h:Wr wf2 a M r):C w95 a M=some r:=z8g rfl rfl h
theorem w0i(h:Wr wew a M r):C w91 a M=some r:=z8g rfl rfl h
theorem w1u(h:Wr wgf a M r):C wai a M=some r:=z8g rfl rfl h
theorem w0h(h:Wr wev a M r):C w90 a M=some r:=z8g rfl rfl h
theorem w0w(h:Wr wfc a M r):C w9f a M=some r:=z8g rfl rfl h
theorem w07(h:Wr wek a M r):C w8p a M=some r:=z8g rfl rfl h
theorem w2r(h:Wr whw a M r):C wc0 a M=some r:=z8g rfl rfl h
theorem w2t(h:Wr wi0 a M r):C wc3 a M=some r:=z8g rfl rfl h
theorem w2v(h:Wr wi2 a M r):C wc5 a M=some r:=z8g rfl rfl h
theorem w2l(h:Wr whh a M r):C wbm a M=some r:=z8g rfl rfl h
theorem w32(h:Wr wi9 a M r):C wcc a M=some r:=z8g rfl rfl h
theorem w30(h:Wr wi7 a M r):C wca a M=some r:=z8g rfl rfl h
theorem w31(h:Wr wi8 a M r):C wcb a M=some r:=z8g rfl rfl h
theorem w2m(h:Wr whi a M r):C wbn a M=some r:=z8g rfl rfl h
theorem w2q(h:Wr whv a M r):C wbz a M=some r:=z8g rfl rfl h
theorem w2j(h:Wr whf a M r):C wbk a M=some r:=z8g rfl rfl h
theorem w39(h:Wr wig a M r):C wcj a M=some r:=z8g rfl rfl h
theorem w33(h:Wr wia a M r):C wcd a M=some r:=z8g rfl rfl h
theorem w3b(h:Wr wii a M r):C wcl a M=some r:=z8g rfl rfl h
theorem w2s(h:Wr whz a M r):C wc2 a M=some r:=z8g rfl rfl h
theorem w2x(h:Wr wi4 a M r):C wc7 a M=some r:=z8g rfl rfl h
theorem w2y(h:Wr wi5 a M r):C wc8 a M=some r:=z8g rfl rfl h
theorem w2z(h:Wr wi6 a M r):C wc9 a M=some r:=z8g rfl rfl h
theorem w2n(h:Wr whj a M r):C wbo a M=some r:=z8g rfl rfl h
theorem w2k(h:Wr whg a M r):C wbl a M=some r:=z8g rfl rfl h
theorem w2w(h:Wr wi3 a M r):C wc6 a M=some r:=z8g rfl rfl h
theorem w36(h:Wr wid a M r):C wcg a M=some r:=z8g rfl rfl h
theorem w35(h:Wr wic a M r):C wcf a M=some r:=z8g rfl rfl h
theorem w37(h:Wr wie a M r):C wch a M=some r:=z8g rfl rfl h
theorem w38(h:Wr wif a M r):C wci a M=some r:=z8g rfl rfl h
theorem w2p(h:Wr whl a M r):C wbq a M=some r:=z8g rfl rfl h
theorem w34(h:Wr wib a M r):C wce a M=some r:=z8g rfl rfl h
theorem w3a(h:Wr wih a M r):C wck a M=some r:=z8g rfl rfl h
theorem w2i(h:Wr whd a M r):C wbi a M=some r:=z8g rfl rfl h
theorem w1s(h:Wr wgd a M r):C waf a M=some r:=z8g rfl rfl h
theorem w1r(h:Wr wgb a M r):C wad a M=some r:=z8g rfl rfl h
theorem w29(h:Wr wgu a M r):C waz a M=some r:=z8g rfl rfl h
theorem w3e(h:We wfg a M P):Lw (C w9j a M) P:=z8d rfl rfl h
theorem w01(h:Wr wed a M r):C w8i a M=some r:=z8g rfl rfl h
theorem w00(h:Wr wec a M r):C w8h a M=some r:=z8g rfl rfl h
theorem w1t(h:Wr wge a M r):C wah a M=some r:=z8g rfl rfl h
theorem w0t(h:Wr wf9 a M r):C w9c a M=some r:=z8g rfl rfl h
theorem w1q(h:Wr wga a M r):C wac a M=some r:=z8g rfl rfl h
theorem w1p(h:Wr wg8 a M r):C waa a M=some r:=z8g rfl rfl h
theorem w2c(h:Wr wh0 a M r):C wb5 a M=some r:=z8g rfl rfl h
theorem w2h(h:Wr wha a M r):C wbf a M=some r:=z8g rfl rfl h
theorem w2b(h:Wr wgz a M r):C wb4 a M=some r:=z8g rfl rfl h
theorem w2d(h:Wr wh3 a M r):C wb8 a M=some r:=z8g rfl rfl h
theorem w3o(h:We whb a M P):Lw (C wbg a M) P:=z8d rfl rfl h
theorem w3h(h:We wgx a M P):Lw (C wb2 a M) P:=z8d rfl rfl h
theorem w3l(h:We wh4 a M P):Lw (C wb9 a M) P:=z8d rfl rfl h
theorem w3k(h:We wh2 a M P):Lw (C wb7 a M) P:=z8d rfl rfl h
theorem w3j(h:We wh1 a M P):Lw (C wb6 a M) P:=z8d rfl rfl h
theorem w3i(h:We wgy a M P):Lw (C wb3 a M) P:=z8d rfl rfl h
theorem w3n(h:We wh9 a M P):Lw (C wbe a M) P:=z8d rfl rfl h
theorem w2e(h:Wr wh5 a M r):C wba a M=some r:=z8g rfl rfl h
theorem w2g(h:Wr wh7 a M r):C wbc a M=some r:=z8g rfl rfl h
theorem w2f(h:Wr wh6 a M r):C wbb a M=some r:=z8g rfl rfl h
theorem w3m(h:We wh8 a M P):Lw (C wbd a M) P:=z8d rfl rfl h
theorem w3g(h:We wgw a M P):Lw (C wb1 a M) P:=z8d rfl rfl h
theorem w0s(h:Wr wf8 a M r):C w9b a M=some r:=z8g rfl rfl h
theorem w3c(h:We wef a M P):Lw (C w8k a M) P:=z8d rfl rfl h
theorem w41(h:We wij a M P):Lw (C wcm a M) P:=z8d rfl rfl h
theorem w2o(h:Wr whk a M r):C wbp a M=some r:=z8g rfl rfl h
theorem w3z(h:We whx a M P):Lw (C wc1 a M) P:=z8d rfl rfl h
theorem w3p(h:We whc a M P):Lw (C wbh a M) P:=z8d rfl rfl h
theorem w1m(h:Wr wg5 a M r):C wa7 a M=some r:=z8g rfl rfl h
theorem w1o(h:Wr wg7 a M r):C wa9 a M=some r:=z8g rfl rfl h
theorem w1n(h:Wr wg6 a M r):C wa8 a M=some r:=z8g rfl rfl h
theorem w1l(h:Wr wg4 a M r):C wa6 a M=some r:=z8g rfl rfl h
theorem w28(h:Wr wgt a M r):C wax a M=some r:=z8g rfl rfl h
theorem w0d(h:Wr wer a M r):C w8w a M=some r:=z8g rfl rfl h
theorem w05(h:Wr wei a M r):C w8n a M=some r:=z8g rfl rfl h
theorem w04(h:Wr weh a M r):C w8m a M=some r:=z8g rfl rfl h
theorem w03(h:Wr weg a M r):C w8l a M=some r:=z8g rfl rfl h
theorem w1y(h:Wr wgj a M r):C wam a M=some r:=z8g rfl rfl h
theorem w0v(h:Wr wfb a M r):C w9e a M=some r:=z8g rfl rfl h
theorem w1x(h:Wr wgi a M r):C wal a M=some r:=z8g rfl rfl h
theorem w0u(h:Wr wfa a M r):C w9d a M=some r:=z8g rfl rfl h
theorem w06(h:Wr wej a M r):C w8o a M=some r:=z8g rfl rfl h
theorem w3f(h:We wg3 a M P):Lw (C wa5 a M) P:=z8d rfl rfl h
theorem w20(h:Wr wgl a M r):C wao a M=some r:=z8g rfl rfl h
theorem w09(h:Wr wem a M r):C w8r a M=some r:=z8g rfl rfl h
theorem w18(h:Wr wfp a M r):C w9s a M=some r:=z8g rfl rfl h
theorem w0a(h:Wr wen a M r):C w8s a M=some r:=z8g rfl rfl h
theorem w1h(h:Wr wfz a M r):C wa1 a M=some r:=z8g rfl rfl h
theorem w08(h:Wr wel a M r):C w8q a M=some r:=z8g rfl rfl h
theorem w0q(h:Wr wf6 a M r):C w99 a M=some r:=z8g rfl rfl h
theorem w1a(h:Wr wfr a M r):C w9u a M=some r:=z8g rfl rfl h
theorem w0y(h:Wr wfe a M r):C w9h a M=some r:=z8g rfl rfl h
theorem w0b(h:Wr weo a M r):C w8t a M=some r:=z8g rfl rfl h
theorem w3d(h:We wep a M P):Lw (C w8u a M) P:=z8d rfl rfl h
theorem w02(h:Wr wee a M r):C w8j a M=some r:=z8g rfl rfl h
theorem w1e(h:Wr wfw a M r):C w9y a M=some r:=z8g rfl rfl h
theorem w0g(h:Wr weu a M r):C w8z a M=some r:=z8g rfl rfl h
theorem w1j(h:Wr wg1 a M r):C wa3 a M=some r:=z8g rfl rfl h
theorem wiw{es:List PV}(h:es.length<=68719476736):C wag [.sl true 1 es] []=some (.un t_int true 1 es,[]):=zqn (e:=w8f) rfl (by simp [w8f,zfv,h])
end Go.Proofs.YtbaclnecajkknaaGreat.Pi

