/- Pi: evaluation by rewriting: rows of rows that are their own; clear; bounds of x[l:h:m]. No condition. -/
import Derived.Test.YtbaclnecajkknaaGreatPiRy
open Option renaming bind_some->L't
open List renaming replicate->L'0
namespace Go.Proofs.YtbaclnecajkknaaGreat.Pi
open Go
set_option linter.all false

/-! ### Rows handed to a row -/
def linK(mem:List Blk)(j sz off len:Nat)(k:Option Blk):Option (PV×List Blk):=match k with
|some (.row _ fl sz' es)=>if fl=true/\sz'=sz/\off=0/\len=es.length then some (.sl true sz es,mem.set j .dead)else none
|_=>none
section
variable {mem:List Blk}{b j sz off len i n:Nat}{fl:Bool}{t t':TypeId}{es cs xs:List PV}{x y e:PV}{k:IntKind}
@[go_sem] theorem zra:linP mem (.ref j sz off len)=linK mem j sz off len mem[j]?:=rfl
@[go_sem] theorem zqz(h:len=es.length):linK mem j sz 0 len (some (.row t true sz es))=some (.sl true sz es,mem.set j .dead):=by simp[linK,h]
@[go_sem] theorem zr8:linP mem (.nil fl sz)=some (.sl fl sz [],mem):=rfl
@[go_sem] theorem zrb:linP mem (.sl fl sz [])=some (.sl fl sz [],mem):=rfl
@[go_sem] theorem zr7{v:Int}:linP mem (.int k v)=some (.int k v,mem):=rfl
@[go_sem] theorem zr5{v:Bool}:linP mem (.bool v)=some (.bool v,mem):=rfl
@[go_sem] theorem zrc{v:ByteArray}:linP mem (.str v)=some (.str v,mem):=rfl
@[go_sem] theorem zr1:linL mem []=some ([],mem):=rfl
@[go_sem] theorem zr0:linL mem (x::xs)=(linP mem x).bind fun y=>(linL y.2 xs).map fun ys=>(y.1::ys.1,ys.2):=rfl
@[go_sem] theorem zqq:linE mem (.agg cs)=(linL mem cs).map fun x=>(.agg x.1,x.2):=rfl
@[go_sem] theorem zqv:linE mem (.ref j sz off len)=linK mem j sz off len mem[j]?:=rfl
@[go_sem] theorem zqt:linE mem (.nil fl sz)=some (.sl fl sz [],mem):=rfl
@[go_sem] theorem zqw:linE mem (.sl fl sz [])=some (.sl fl sz [],mem):=rfl
@[go_sem] theorem zqs{v:Int}:linE mem (.int k v)=some (.int k v,mem):=rfl
@[go_sem] theorem zqr{v:Bool}:linE mem (.bool v)=some (.bool v,mem):=rfl
@[go_sem] theorem zqx{v:ByteArray}:linE mem (.str v)=some (.str v,mem):=rfl
@[go_sem] theorem zre:linR sz mem []=some ([],mem):=rfl
@[go_sem] theorem zrd:linR sz mem (x::xs)=(linE mem x).bind fun y=>if okE false sz y.1=true then(linR sz y.2 xs).map fun ys=>(y.1::ys.1,ys.2)else none:=rfl
@[go_sem] theorem zrh{v:Int}:linZ (.int k v)=true:=rfl
@[go_sem] theorem zrg{v:Bool}:linZ (.bool v)=true:=rfl
@[go_sem] theorem zrj{v:ByteArray}:linZ (.str v)=true:=rfl
@[go_sem] theorem zri:linZ (.nil fl sz)=true:=rfl
/-! ### Storing -/
def stlG(n b sz i off:Nat)(y:PV)(mem:List Blk)(t:TypeId)(es:List PV)(e:Option PV):Option (List Blk):=match e with
|some e=>if off+n<=sz/\y.cells.length=n then(ztv (isAgg e) (splice e.cells off y.cells)).bind fun e'=>if okE false sz e'=true then some (mem.set b (.lin t sz (es.set i e')))else none else none
|none=>none
def stlF(n b sz i off:Nat)(y:PV)(mem:List Blk)(k:Option Blk):Option (List Blk):=match k with
|some (.lin t sz' es)=>if sz=sz' then stlG n b sz' i off y mem t es es[i]? else none
|_=>none
def stlH(n b sz i off:Nat)(y:Option (PV×List Blk)):Option (List Blk):=match y with
|some (y1,mem)=>stlF n b sz i off y1 mem mem[b]?
|none=>none
def sthG(n b sz i off i0 off0:Nat)(y:PV)(mem:List Blk)(t:TypeId)(es:List PV)(e:Option PV):Option (List Blk):=match e with
|some e=>if i=i0/\off=off0/\n=1/\y.cells.length=1 then(ztv (isAgg e) (splice e.cells off y.cells)).bind fun e'=>if okE false sz e'=true then some (mem.set b (.lin t sz (es.set i e')))else none else none
|none=>none
def sthF(n b sz i off i0 off0:Nat)(y:PV)(mem:List Blk)(k:Option Blk):Option (List Blk):=match k with
|some (.hol t sz' es _ _)=>if sz=sz' then sthG n b sz' i off i0 off0 y mem t es es[i]? else none
|_=>none
def sthH(n b sz i off i0 off0:Nat)(y:Option (PV×List Blk)):Option (List Blk):=match y with
|some (y1,mem)=>sthF n b sz i off i0 off0 y1 mem mem[b]?
|none=>none
def stlK(mem:List Blk)(n b sz i off:Nat)(y:PV)(k:Option Blk):Option (List Blk):=match k with
|some (.lin ..)=>stlH n b sz i off (linE mem y)
|some (.hol _ _ _ i0 off0)=>sthH n b sz i off i0 off0 (linE mem y)
|_=>storeV mem n (.ep b sz i off) y
@[go_sem] theorem z1dc:stlV mem n (.ptr b off) y=storeV mem n (.ptr b off) y:=rfl
@[go_sem] theorem z1db:stlV mem n (.ep b sz i off) y=stlK mem n b sz i off y mem[b]?:=by
 simp only[stlV]
 generalize mem[b]?=kb
 cases kb with
 |none=>rfl
 |some k=>
  cases k with
  |lin t sz' es=>
   simp only[stlK]
   cases linE mem y with
   |none=>rfl
   |some z=>
    simp only[L't,stlH,stlF]
    generalize z.2[b]?=kz
    cases kz with
    |none=>rfl
    |some k=>
     cases k with
     |lin t2 s2 es2=>
      simp only[stlG]
      generalize es2[i]?=ke
      cases ke with
      |none=>simp
      |some e=>simp only;grind
     |_=>rfl
  |hol t sz' es i0 off0=>
   simp only[stlK]
   cases linE mem y with
   |none=>rfl
   |some z=>
    simp only[L't,sthH,sthF]
    generalize z.2[b]?=kz
    cases kz with
    |none=>rfl
    |some k=>
     cases k with
     |hol t2 s2 es2=>
      simp only[sthG]
      generalize es2[i]?=ke
      cases ke with
      |none=>simp
      |some e=>simp only;grind
     |_=>rfl
  |_=>rfl
@[go_sem] theorem z1d7{sz' i0 off0:Nat}:stlK mem n b sz i off y (some (.hol t sz' es i0 off0))=sthH n b sz i off i0 off0 (linE mem y):=rfl
@[go_sem] theorem z1d1{i0 off0:Nat}:sthH n b sz i off i0 off0 (some (y,mem))=sthF n b sz i off i0 off0 y mem mem[b]?:=rfl
@[go_sem] theorem z1cz{i0 off0 i1 off1:Nat}:sthF n b sz i off i0 off0 y mem (some (.hol t sz es i1 off1))=sthG n b sz i off i0 off0 y mem t es es[i]?:=by simp[sthF]
@[go_sem] theorem z1d0{f1:Bool}{s1:Nat}{v:List PV}{k:IntKind}{z:Int}:sthG 1 b 1 i 0 i 0 (.sl f1 s1 v) mem t es (some (.int k z))=some (mem.set b (.lin t 1 (es.set i (.sl f1 s1 v)))):=by
 simp[sthG,isAgg,ztv,splice,PV.cells,PV.imm1,okE]
@[go_sem] theorem z1d8{sz':Nat}:stlK mem n b sz i off y (some (.lin t sz' es))=stlH n b sz i off (linE mem y):=rfl
@[go_sem] theorem z1d9{sz':Nat}:stlK mem n b sz i off y (some (.row t fl sz' es))=storeV mem n (.ep b sz i off) y:=rfl
@[go_sem] theorem z1d6:stlH n b sz i off (some (y,mem))=stlF n b sz i off y mem mem[b]?:=rfl
@[go_sem] theorem z1d2:stlF n b sz i off y mem (some (.lin t sz es))=stlG n b sz i off y mem t es es[i]?:=by simp[stlF]
@[go_sem] theorem z1d3:stlG n b sz i off y mem t es (some (.agg cs))=if off+n<=sz/\y.cells.length=n then(if okE false sz (.agg (splice cs off y.cells))=true then some (mem.set b (.lin t sz (es.set i (.agg (splice cs off y.cells)))))else none)else none:=by
 simp only[stlG,z8p,isAgg,ztv,L't]
@[go_sem] theorem z1d5{f1 f2:Bool}{s1 s2:Nat}{u v:List PV}:stlG 1 b 1 i 0 (.sl f1 s1 v) mem t es (some (.sl f2 s2 u))=some (mem.set b (.lin t 1 (es.set i (.sl f1 s1 v)))):=by
 simp[stlG,isAgg,ztv,splice,PV.cells,PV.imm1,okE]
@[go_sem] theorem z1d4{f1 f2:Bool}{s1 s2:Nat}{v:List PV}:stlG 1 b 1 i 0 (.sl f1 s1 v) mem t es (some (.nil f2 s2))=some (mem.set b (.lin t 1 (es.set i (.sl f1 s1 v)))):=by
 simp[stlG,isAgg,ztv,splice,PV.cells,PV.imm1,okE]
/-! ### append -/
def applK(mem:List Blk)(t:TypeId)(fl:Bool)(sz:Nat)(x:PV)(b2 s2 o2 l2:Nat)(k:Option Blk):Option (PV×List Blk):=match k with
 |some (.lin t2 sz2 es2)=>if t2=t/\sz2=sz/\s2=sz/\o2=0/\l2=es2.length/\l2<=zt4/\fl=false then
  (match x with
  |.nil _ _=>some (.ref mem.length sz 0 l2,mem.set b2 .dead++[.lin t sz es2])
  |.ref b sx off len=>match mem[b]? with
   |some (.lin t1 sz1 es)=>if t1=t/\sz1=sz/\sx=sz/\off=0/\len=es.length/\len<=zt4/\b≠b2 then some (.ref mem.length sz 0 (len+l2),(mem.set b2 .dead).set b .dead++[.lin t sz (es++es2)])else none
   |_=>none
  |_=>none)else none
 |_=>appendV mem t fl sz x (.ref b2 s2 o2 l2)
@[go_sem] theorem z3t{b2 s2 o2 l2:Nat}:applV mem t fl sz x (.ref b2 s2 o2 l2)=applK mem t fl sz x b2 s2 o2 l2 mem[b2]?:=by
 simp only[applV,applK]
 generalize mem[b2]?=k
 cases k with
 |none=>rfl
 |some k=>cases k<;>rfl
@[go_sem] theorem z3s:applV mem t fl sz x (.nil fl n)=appendV mem t fl sz x (.nil fl n):=rfl
@[go_sem] theorem z3u:applV mem t fl sz x (.sl fl n es)=appendV mem t fl sz x (.sl fl n es):=rfl
def applJ(mem:List Blk)(t:TypeId)(sz:Nat)(b off len b2:Nat)(es2:List PV)(k:Option Blk):Option (PV×List Blk):=match k with
|some (.lin t1 sz1 es)=>if t1=t/\sz1=sz/\off=0/\len=es.length/\len<=zt4/\b≠b2 then some (.ref mem.length sz 0 (len+es2.length),(mem.set b2 .dead).set b .dead++[.lin t sz (es++es2)])else none
|_=>none
@[go_sem] theorem z3p{b2 l2:Nat}(h:l2=es.length)(h2:l2<=68719476736):applK mem t false sz (.nil fl n) b2 sz 0 l2 (some (.lin t sz es))=some (.ref mem.length sz 0 l2,mem.set b2 .dead++[.lin t sz es]):=by
 subst h
 simp[applK,zt4,h2]
@[go_sem] theorem z3q{b2 l2:Nat}(h:l2=es.length)(h2:l2<=68719476736):applK mem t false sz (.ref b sz off len) b2 sz 0 l2 (some (.lin t sz es))=applJ mem t sz b off len b2 es mem[b]?:=by
 subst h
 simp only[applK,applJ,zt4,h2]
 generalize mem[b]?=k
 cases k with
 |none=>simp
 |some k=>cases k<;>simp<;>grind
@[go_sem] theorem z3o{b2:Nat}{es2:List PV}(h:len=es.length)(h2:len<=68719476736)(h3:b≠b2):applJ mem t sz b 0 len b2 es2 (some (.lin t sz es))=some (.ref mem.length sz 0 (len+es2.length),(mem.set b2 .dead).set b .dead++[.lin t sz (es++es2)]):=by
 simp[applJ,zt4,h,h3,show es.length<=68719476736 by omega]
/-! ### clear, bounds -/
def clrK(mem:List Blk)(z:PV)(b sz off len:Nat)(k:Option Blk):Option (List Blk):=match k with
|some (.row t fl sz' es)=>if sz'=sz/\off+len<=es.length/\okE fl sz z=true then some (mem.set b (.row t fl sz (splice es off (L'0 len z))))else none
|_=>none
@[go_sem] theorem zal{z:PV}:clrV mem z (.nil fl sz)=some mem:=rfl
@[go_sem] theorem zan{z:PV}:clrV mem z (.ref b sz off len)=if len=0 then some mem else clrK mem z b sz off len mem[b]?:=by
 simp only[clrV,clrK]
 generalize mem[b]?=k
 split
 ·rfl
 ·cases k with
  |none=>rfl
  |some k=>cases k<;>rfl
@[go_sem] theorem zak{z:PV}:clrK mem z b sz off len (some (.row t fl sz es))=if off+len<=es.length/\okE fl sz z=true then some (mem.set b (.row t fl sz (splice es off (L'0 len z))))else none:=by simp[clrK]
def copyK(mem:List Blk)(sx b sz off len:Nat)(s:Option (Bool×Nat×List PV))(k:Option Blk):Option (Nat×List Blk):=s.bind fun s=>match k with
|some (.row t fl sz' es)=>if sx=sz/\sz'=sz/\s.2.1=sz/\s.1=fl/\off+len<=es.length/\0<len/\0<s.2.2.length/\len<=zt4 then some (min s.2.2.length len,mem.set b (.row t fl sz (splice es off (s.2.2.take (min s.2.2.length len)))))else none
|_=>none
@[go_sem] theorem zbw{y:PV}{sx:Nat}:copyV mem sx (.ref b sz off len) y=copyK mem sx b sz off len (shown mem y) mem[b]?:=by
 simp only[copyV,copyK]
 congr 1
@[go_sem] theorem zbu{xs:List PV}(h:off+len<=es.length)(h1:0<len)(h2:0<xs.length)(h3:len<=68719476736):copyK mem sz b sz off len (some (fl,sz,xs)) (some (.row t fl sz es))=some (min xs.length len,mem.set b (.row t fl sz (splice es off (xs.take (min xs.length len))))):=by simp[copyK,h,h1,h2,zt4,h3]
@[go_sem] theorem z9q{l h m:Int}:chk3V l h m (.ref b sz off len)=if 0<=l/\l<=h/\h<=m/\m<=len then some .any else none:=rfl
@[go_sem] theorem z9r{l h m:Int}:chk3V l h m (.sl fl sz es)=if 0<=l/\l<=h/\h<=m/\m<=es.length then some .any else none:=rfl
end

/-! ### A call on a row in a row -/
def Wk(orc:Orc)(k:Option KC)(st:St)(Q:Out->Prop):Prop:=match k with
|some k=>∃s,kcall orc k st=some s/\Q (.next s)
|none=>False
def Wk1(s:Option St)(Q:Out->Prop):Prop:=match s with
|some s=>Q (.next s)
|none=>False
def kcA(orc:Orc)(f:FuncId)(sz off d:Nat)(fr:List PV)(mem:List Blk)(a i k:Option PV):Option St:=match a,i,k with
 |some (.ref b s o len),some (.int _ i),some kv=>if s=sz then(idx i len).bind fun j=>match mem[b]? with
  |some (.lin t sz' es)=>if sz'=sz then(es[o+j]?).bind fun e=>(zoa orc f sz off e kv).map fun r=>⟨fr.set d r.1,mem.set b (.lin t sz' (es.set (o+j) r.2))⟩else none
  |_=>none else none
 |_,_,_=>none
def kcB(orc:Orc)(f:FuncId)(sz off d:Nat)(fr:List PV)(mem:List Blk)(b j:Nat)(kv:PV)(k:Option Blk):Option St:=match k with
|some (.lin t sz' es)=>if sz'=sz then(es[j]?).bind fun e=>(zoa orc f sz off e kv).map fun r=>⟨fr.set d r.1,mem.set b (.lin t sz' (es.set j r.2))⟩else none
|_=>none
section
variable {orc:Orc}{m:Nat}{Q:Out->Prop}{st s:St}{f:FuncId}{sz off ia ii ik d b o len j:Nat}{fr:List PV}{mem:List Blk}{kk:IntKind}{i:Int}{kv:PV}{t:TypeId}{es:List PV}{k:KC}
@[go_sem] theorem z1e{ops:List IOper}:W orc m (.kreg ops) st Q↔Wk orc (zoq ops) st Q:=by
 unfold W Wk
 simp only[run]
 cases zoq ops with
 |none=>simp
 |some k=>
  simp only[L't,Option.map_eq_some_iff]
  constructor
  ·rintro⟨o,⟨s,h1,rfl⟩,h2⟩;exact⟨s,h1,h2⟩
  ·rintro⟨s,h1,h2⟩;exact⟨_,⟨s,h1,rfl⟩,h2⟩
@[go_sem] theorem zos:zoq [⟨none,.mov (.v ia),none⟩,⟨none,.mov (.v ii),none⟩,⟨none,.iaddr sz (.r 0) (.r 1),none⟩,⟨none,.faddr off (.r 2),none⟩,⟨none,.load false 1 (.r 3),none⟩,⟨none,.mov (.v ik),none⟩,⟨none,.callm f [.r 4,.r 5],none⟩,⟨some d,.mov (.r 6),none⟩]=some ⟨sz,off,f,ia,ii,ik,d⟩:=rfl
@[go_sem] theorem zor:zoq [⟨none,.mov (.v ia),none⟩,⟨none,.mov (.v ii),none⟩,⟨none,.iaddr sz (.r 0) (.r 1),none⟩,⟨none,.load false 1 (.r 2),none⟩,⟨none,.mov (.v ik),none⟩,⟨none,.callm f [.r 3,.r 4],none⟩,⟨some d,.mov (.r 5),none⟩]=some ⟨sz,0,f,ia,ii,ik,d⟩:=rfl
@[go_sem] theorem z1t:Wk orc (some ⟨sz,off,f,ia,ii,ik,d⟩) st Q↔Wk1 (kcA orc f sz off d st.fr st.mem st.fr[ia]? st.fr[ii]? st.fr[ik]?) Q:=by
 have:kcall orc ⟨sz,off,f,ia,ii,ik,d⟩ st=kcA orc f sz off d st.fr st.mem st.fr[ia]? st.fr[ii]? st.fr[ik]?:=by
  simp only[kcall,kcA]
  split
  ·rename_i h1 h2 h3
   simp only[h1,h2,h3]
   split
   ·congr 1
   ·rfl
  ·rename_i h
   split
   ·rename_i h1 h2 h3
    exact(h _ _ _ _ _ _ _ h1 h2 h3).elim
   ·rfl
 show(∃s,kcall orc ⟨sz,off,f,ia,ii,ik,d⟩ st=some s/\Q (.next s))↔_
 rw[this]
 unfold Wk1
 cases kcA orc f sz off d st.fr st.mem st.fr[ia]? st.fr[ii]? st.fr[ik]? with
 |none=>simp
 |some s=>simp
@[go_sem] theorem z1s:Wk1 (some s) Q↔Q (.next s):=Iff.rfl
@[go_sem] theorem zo7:kcA orc f sz off d fr mem (some (.ref b sz o len)) (some (.int kk i)) (some kv)=(idx i len).bind fun j=>kcB orc f sz off d fr mem b (o+j) kv mem[b]?:=by
 simp only[kcA,if_true]
 rfl
@[go_sem] theorem zo8:kcB orc f sz off d fr mem b j kv (some (.lin t sz es))=(es[j]?).bind fun e=>(zoa orc f sz off e kv).map fun r=>⟨fr.set d r.1,mem.set b (.lin t sz (es.set j r.2))⟩:=by simp[kcB]
end

/-! ### Rows out of rows, and rows that grow while they are read -/
section
variable {mem:List Blk}{t tl:TypeId}{fl ag:Bool}{n b sz i off len l0:Nat}{es xs ys cs:List PV}{x y:PV}{f:Nat->Nat}{k:IntKind}{u:Int}
@[go_sem] theorem zox:(Blk.hol t sz es i off).refs=[]:=rfl
@[go_sem] theorem zoz:(Blk.que t sz es).refs=[]:=rfl
@[go_sem] theorem zp5:(Blk.hol t sz es i off).ren f=.hol t sz es i off:=rfl
@[go_sem] theorem zp7:(Blk.que t sz es).ren f=.que t sz es:=rfl
@[go_sem] theorem zia:frzK mem b (some (.hol t sz es i off))=mem:=rfl
@[go_sem] theorem zic:frzK mem b (some (.que t sz es))=mem:=rfl
@[go_sem] theorem z14j:(PV.qref b sz off len).refs=[b]:=rfl
@[go_sem] theorem z14i:(PV.qep b sz i off).refs=[b]:=rfl
@[go_sem] theorem z15j:(PV.qref b sz off len).ren f=.qref (f b) sz off len:=rfl
@[go_sem] theorem z15i:(PV.qep b sz i off).ren f=.qep (f b) sz i off:=rfl
@[go_sem] theorem zxn:(PV.qref b sz off len).one=true:=rfl
@[go_sem] theorem zxm:(PV.qep b sz i off).one=true:=rfl
@[go_sem] theorem z8u:(PV.qref b sz off len).cells=[.qref b sz off len]:=rfl
@[go_sem] theorem z8t:(PV.qep b sz i off).cells=[.qep b sz i off]:=rfl
@[go_sem] theorem zqg:lenV false (.qref b sz off len)=some len:=rfl
@[go_sem] theorem zkx:zkv mem sz (.qref b sz off len) (.int k u)=(idx u len).map fun j=>.qep b sz (off+j) 0:=by simp[zkv]
def loadQ(k:Option Blk)(ag:Bool)(n sz i off:Nat):Option PV:=match k with
|some (.que _ sz' es)=>if sz'=sz then(es[i]?).bind fun e=>cut ag off n e.cells else none
|_=>none
@[go_sem] theorem zs3:loadV mem ag n (.qep b sz i off)=loadQ mem[b]? ag n sz i off:=rfl
@[go_sem] theorem zrw:loadQ (some (.que t sz es)) ag n sz i off=(es[i]?).bind fun e=>cut ag off n e.cells:=by simp[loadQ]
attribute [go_sem] Option.map_some
def ldtE(t:TypeId)(mem:List Blk)(b:Nat)(tl:TypeId)(sz:Nat)(es:List PV)(i off:Nat)(e:Option PV):Option (PV×List Blk):=e.bind fun e=>match e.cells[off]? with
|some (.sl true s1 xs)=>if xs.isEmpty then none else(ztv (isAgg e) (splice e.cells off [.int .i64 0])).bind fun e'=>if okE false sz e'=true then some (.ref mem.length s1 0 xs.length,mem.set b (.hol tl sz (es.set i e') i off)++[.row t true s1 xs])else none
|some (.nil fl s1)=>some (.nil fl s1,mem)
|_=>none
def ldtK(t:TypeId)(mem:List Blk)(b sz i off:Nat)(k:Option Blk):Option (PV×List Blk):=match k with
|some (.lin tl sz' es)=>if sz'=sz then ldtE t mem b tl sz es i off es[i]? else none
|k=>(loadE k false 1 sz i off).map fun v=>(v,mem)
@[go_sem] theorem zpq:ldtV t mem (.ep b sz i off)=ldtK t mem b sz i off mem[b]?:=by
 simp only[ldtV]
 cases hb:mem[b]? with
 |none=>simp[ldtK,zry,hb]
 |some k=>cases k<;>simp only[ldtK,zry,hb]<;>rfl
@[go_sem] theorem zpr:ldtV t mem (.ptr b off)=(loadV mem false 1 (.ptr b off)).map fun v=>(v,mem):=rfl
@[go_sem] theorem zps:ldtV t mem (.pv x off)=(loadV mem false 1 (.pv x off)).map fun v=>(v,mem):=rfl
@[go_sem] theorem zpn:ldtK t mem b sz i off (some (.lin tl sz es))=ldtE t mem b tl sz es i off es[i]?:=by simp[ldtK]
@[go_sem] theorem zpo:ldtK t mem b sz i off (some (.row tl fl n es))=(loadE (some (.row tl fl n es)) false 1 sz i off).map fun v=>(v,mem):=rfl
@[go_sem] theorem zpl{s1:Nat}:ldtE t mem b tl 1 es i 0 (some (.nil fl s1))=some (.nil fl s1,mem):=rfl
@[go_sem] theorem zpm{s1:Nat}(h:0<xs.length):ldtE t mem b tl 1 es i 0 (some (.sl true s1 xs))=some (.ref mem.length s1 0 xs.length,mem.set b (.hol tl 1 (es.set i (.int .i64 0)) i 0)++[.row t true s1 xs]):=by
 have h0:¬xs=[]:=by rintro rfl;simp at h
 simp[ldtE,PV.cells,h0,ztv,isAgg,splice,PV.imm1,okE]
def ldfK(mem:List Blk)(b sz i off:Nat)(k:Option Blk):Option (PV×List Blk):=match k with
|some (.lin _ sz' es)=>(loadE (some (.fro false sz' es)) false 1 sz i off).map fun v=>(v,mem.set b (.fro false sz' es))
|k=>(loadE k false 1 sz i off).map fun v=>(v,mem)
@[go_sem] theorem zpi:ldfV mem (.ep b sz i off)=ldfK mem b sz i off mem[b]?:=by
 simp only[ldfV]
 cases hb:mem[b]? with
 |none=>simp[ldfK,zry,hb]
 |some k=>
  cases k with
  |lin t sz' es=>
   have hlt:=(List.getElem?_eq_some_iff.1 hb).1
   have hf:freeze mem b=mem.set b (.fro false sz' es):=by simp[freeze,hb]
   simp only[ldfK,hf,zry,List.getElem?_set_self hlt]
  |_=>simp only[ldfK,zry,hb]
@[go_sem] theorem zpj:ldfV mem (.ptr b off)=(loadV mem false 1 (.ptr b off)).map fun v=>(v,mem):=rfl
@[go_sem] theorem zpk:ldfV mem (.pv x off)=(loadV mem false 1 (.pv x off)).map fun v=>(v,mem):=rfl
@[go_sem] theorem zpf:ldfK mem b sz i off (some (.lin t n es))=(loadE (some (.fro false n es)) false 1 sz i off).map fun v=>(v,mem.set b (.fro false n es)):=rfl
@[go_sem] theorem zpe:ldfK mem b sz i off (some (.fro fl n es))=(loadE (some (.fro fl n es)) false 1 sz i off).map fun v=>(v,mem):=rfl
@[go_sem] theorem zpg:ldfK mem b sz i off (some (.row t fl n es))=(loadE (some (.row t fl n es)) false 1 sz i off).map fun v=>(v,mem):=rfl
def slqD(mem:List Blk)(sz b sz' off len:Nat)(k:IntKind)(u:Int)(kb:Option Blk):Option (PV×List Blk):=match kb with
|some (.row t true sz2 es)=>if sz'=sz/\sz2=sz/\0<=u/\u<=len/\off+len=es.length/\0<es.length then some (.qref mem.length sz (off+u.toNat) (len-u.toNat),mem.set b .dead++[.que t sz es])else none
|_=>(z1b4 mem sz (.ref b sz' off len) (some (.int k u)) none).map fun r=>(r,mem)
def slqQ(mem:List Blk)(sz b sz' off len:Nat)(u:Int)(kb:Option Blk):Option (PV×List Blk):=match kb with
|some (.que ..)=>if sz'=sz/\0<=u/\u<=len then some (.qref b sz (off+u.toNat) (len-u.toNat),mem)else none
|_=>none
@[go_sem] theorem z1bd{sz':Nat}:slqV mem sz (.ref b sz' off len) (.int k u)=slqD mem sz b sz' off len k u mem[b]?:=rfl
@[go_sem] theorem z1bc{sz':Nat}:slqV mem sz (.qref b sz' off len) (.int k u)=slqQ mem sz b sz' off len u mem[b]?:=rfl
@[go_sem] theorem z1b9(h1:0<=u)(h2:u<=len)(h3:off+len=es.length)(h4:0<es.length):slqD mem sz b sz off len k u (some (.row t true sz es))=some (.qref mem.length sz (off+u.toNat) (len-u.toNat),mem.set b .dead++[.que t sz es]):=by
 simp[slqD,h1,h2,h3,h4]
@[go_sem] theorem z1ba(h1:0<=u)(h2:u<=len):slqQ mem sz b sz off len u (some (.que t n es))=some (.qref b sz (off+u.toNat) (len-u.toNat),mem):=by
 simp[slqQ,h1,h2]
@[go_sem] theorem z1be:slqV mem sz (.sl fl n es) x=(z1b4 mem sz (.sl fl n es) (some x) none).map fun r=>(r,mem):=rfl
def apqK(mem:List Blk)(t:TypeId)(sz b off len:Nat)(ys:List PV)(k:Option Blk):Option (PV×List Blk):=match k with
|some (.que t' sz' es)=>if t'=t/\sz'=sz/\off+len=es.length/\len<=zt4/\ys.length<=zt4/\0<ys.length then some (.qref mem.length sz 0 (len+ys.length),mem.set b .dead++[.que t sz (es.drop off++ys)])else none
|_=>none
def apqS(mem:List Blk)(t:TypeId)(sz b sx off len:Nat)(s:Option (Bool×Nat×List PV)):Option (PV×List Blk):=match s with
|some (fl',sz',ys)=>if fl'=true/\sz'=sz/\sx=sz then apqK mem t sz b off len ys mem[b]? else none
|none=>none
@[go_sem] theorem z3z{sx:Nat}:apqV mem t sz (.qref b sx off len) y=apqS mem t sz b sx off len (shown mem y):=by
 simp only[apqV,apqS]
 cases shown mem y with
 |none=>rfl
 |some s=>
  obtain⟨f,z,ys⟩:=s
  simp only[L't,apqK]
  cases mem[b]? with
  |none=>simp
  |some k=>cases k<;>simp only<;>grind
@[go_sem] theorem z3w:apqS mem t sz b sz off len (some (true,sz,ys))=apqK mem t sz b off len ys mem[b]?:=by simp[apqS]
@[go_sem] theorem z3v(h1:off+len=es.length)(h2:len<=68719476736)(h3:ys.length<=68719476736)(h4:0<ys.length):apqK mem t sz b off len ys (some (.que t sz es))=some (.qref mem.length sz 0 (len+ys.length),mem.set b .dead++[.que t sz (es.drop off++ys)]):=by
 simp[apqK,zt4,h1,h2,h3,h4]
@[go_sem] theorem z40:apqV mem t sz (.ref b n off len) y=appendV mem t true sz (.ref b n off len) y:=rfl
@[go_sem] theorem z3y:apqV mem t sz (.nil fl n) y=appendV mem t true sz (.nil fl n) y:=rfl
@[go_sem] theorem zyr{x:Opd}:opds (.ldt t x)=[x]:=rfl
@[go_sem] theorem zyq{x:Opd}:opds (.ldf x)=[x]:=rfl
@[go_sem] theorem zz6{x y:Opd}:opds (.slq n x y)=[x,y]:=rfl
@[go_sem] theorem zy7{x y:Opd}:opds (.apq t n x y)=[x,y]:=rfl
end
end Go.Proofs.YtbaclnecajkknaaGreat.Pi

