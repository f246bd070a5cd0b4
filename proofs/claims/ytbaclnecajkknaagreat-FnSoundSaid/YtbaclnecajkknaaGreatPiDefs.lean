/- Pi: an interpreter of Go functions over pure values: a slice that nobody writes any more is its list of elements, what a call makes lies in a heap of its own. Definitions alone; no condition. -/
import Derived.WalkKit
open List renaming replicate->L'0,range->L'1
namespace Go.Proofs.YtbaclnecajkknaaGreat.Pi
open Go
set_option linter.all false

inductive PV where
|any
|undef
|int (k:IntKind)(n:Int)
|bool (b:Bool)
|str (s:ByteArray)
|sl (fl:Bool)(sz:Nat)(es:List PV)
|nil (fl:Bool)(sz:Nat)
|ref (b sz off len:Nat)
|ptr (b off:Nat)
|ep (b sz i off:Nat)
|pv (x:PV)(off:Nat)
|nilp
|nilf
|clo (f:FuncId)(caps:List PV)
|agg (cs:List PV)
|tup (vs:List PV)
|un (t:TypeId)(fl:Bool)(sz:Nat)(es:List PV)
|sle (fl:Bool)(sz:Nat)
|unn (t:TypeId)(sz:Nat)(es:List PV)
|qref (b sz off len:Nat)
|qep (b sz i off:Nat)
deriving Inhabited
inductive Blk where
|dead
|row (t:TypeId)(fl:Bool)(sz:Nat)(es:List PV)
|fro (fl:Bool)(sz:Nat)(es:List PV)
|box (t:TypeId)(cs:List PV)
|lin (t:TypeId)(sz:Nat)(es:List PV)
|hol (t:TypeId)(sz:Nat)(es:List PV)(i off:Nat)
|que (t:TypeId)(sz:Nat)(es:List PV)
deriving Inhabited
inductive Opd where
|r (j:Nat)
|v (i:Nat)
|c (x:PV)
deriving Inhabited
inductive IOp where
|mov (x:Opd)
|pick (c a b:Opd)
|neg (x:Opd)
|not (x:Opd)
|bin (bl:Bool)(op:BinOp)(x y:Opd)
|eqs (ne:Bool)(ks:List Nat)(x y:Opd)
|isnil (ne:Bool)(x:Opd)
|alloc (t:TypeId)(cs:List PV)
|box (t:TypeId)(n:Nat)(x:Opd)
|load (ag:Bool)(n:Nat)(x:Opd)
|store (n:Nat)(x y:Opd)
|faddr (off:Nat)(x:Opd)
|field (ag:Bool)(off n:Nat)(x:Opd)
|iaddr (sz:Nat)(x i:Opd)
|stri (x i:Opd)
|slice (sz:Nat)(x:Opd)(lo hi:Option Opd)
|sub (x:Opd)(lo hi:Option Opd)
|extract (x:Opd)(i:Nat)
|ncheck (x:Opd)
|build (zero:List PV)(parts:List (Nat×Nat×Opd))
|bslice (q:Bool)(t:TypeId)(fl:Bool)(sz:Nat)(parts:List Opd)
|mk (t:TypeId)(fl:Bool)(sz:Nat)(zero:PV)(n:Opd)
|mkfn (f:FuncId)(caps:List Opd)
|conv (k:IntKind)(x:Opd)
|call (q:Bool)(f:FuncId)(args:List Opd)
|callv (q:Bool)(x:Opd)(args:List Opd)
|len (st:Bool)(x:Opd)
|append (t:TypeId)(fl:Bool)(sz:Nat)(x y:Opd)
|mnmx (mx:Bool)(x y:Opd)
|callm (f:FuncId)(args:List Opd)
|strb (x:Opd)
|nilrow (t:TypeId)(fl:Bool)(sz:Nat)
|clr (z:PV)(x:Opd)
|chk3 (x lo hi mx:Opd)
|mkl (t:TypeId)(sz:Nat)(zero:PV)(n:Opd)
|nill (t:TypeId)(sz:Nat)
|bsl (t:TypeId)(sz:Nat)(parts:List Opd)
|appl (t:TypeId)(fl:Bool)(sz:Nat)(x y:Opd)
|stl (n:Nat)(x y:Opd)
|ldt (t:TypeId)(x:Opd)
|ldf (x:Opd)
|slq (sz:Nat)(x lo:Opd)
|apq (t:TypeId)(sz:Nat)(x y:Opd)
|copy (sz:Nat)(x y:Opd)
|bad
deriving Inhabited
structure IOper where
dst:Option Nat
op:IOp
guard:Option (Nat×Bool)
deriving Inhabited
inductive ICode where
|skip
|region (dr:Bool)(chk:List (Nat×Nat))(ops:List IOper)
|seq (a b:ICode)
|cond (c:Opd)(thn els:ICode)
|block (id:Nat)(body:ICode)
|loop (keep:List Bool)(body:ICode)
|exit (id:Nat)
|scope (body:ICode)
|ret
|kreg (ops:List IOper)
deriving Inhabited
inductive IRes where
|v (i:Nat)
|cell (ag:Bool)(n:Nat)(i:Nat)
deriving Inhabited
structure IFun where
slots:List Nat
body:ICode
results:List IRes
deriving Inhabited
structure St where
fr:List PV
mem:List Blk
deriving Inhabited
inductive Out where
|next (s:St)
|ret (s:St)
|exit (id:Nat)(s:St)
/-! ### Values -/
def PV.cells:PV->List PV
|.agg cs=>cs
|v=>[v]
def PV.one:PV->Bool
|.int ..|.bool _|.str _|.sl ..|.nil ..|.ref ..|.ptr ..|.ep ..|.pv ..|.nilp|.nilf|.clo ..|.qref ..|.qep ..=>true
|_=>false
def PV.scalar:PV->Bool
|.int ..|.bool _|.str _=>true
|_=>false
def PV.imm1:PV->Bool
|.int ..|.bool _|.str _|.sl ..|.nil ..=>true
|_=>false
def okE(fl:Bool)(sz:Nat)(e:PV):Bool:=e.cells.length==sz&&e.cells.all fun c=>c.imm1&&(!fl||c.scalar)
mutual
def PV.refs:PV->List Nat
|.ref b _ _ _=>[b]
|.ptr b _=>[b]
|.ep b _ _ _=>[b]
|.qref b _ _ _=>[b]
|.qep b _ _ _=>[b]
|.clo _ caps=>refsL caps
|.agg cs=>refsL cs
|.tup vs=>refsL vs
|.pv x _=>x.refs
|_=>[]
def refsL:List PV->List Nat
|[]=>[]
|x::xs=>x.refs++refsL xs
end

def Blk.refs:Blk->List Nat
|.box _ cs=>refsL cs
|_=>[]
mutual
def PV.ren(f:Nat->Nat):PV->PV
|.ref b sz off len=>.ref (f b) sz off len
|.ptr b off=>.ptr (f b) off
|.ep b sz i off=>.ep (f b) sz i off
|.qref b sz off len=>.qref (f b) sz off len
|.qep b sz i off=>.qep (f b) sz i off
|.clo g caps=>.clo g (renL f caps)
|.agg cs=>.agg (renL f cs)
|.tup vs=>.tup (renL f vs)
|.pv x off=>.pv (x.ren f) off
|v=>v
def renL(f:Nat->Nat):List PV->List PV
|[]=>[]
|x::xs=>x.ren f::renL f xs
end
def Blk.ren(f:Nat->Nat):Blk->Blk
|.box t cs=>.box t (renL f cs)
|b=>b
def rowAt(mem:List Blk)(b sz off len:Nat):Option (Bool×List PV):=
match mem[b]? with
|some (.row _ fl sz' es)=>if off+len<=es.length/\sz'=sz then some (fl,(es.drop off).take len)else none
|some (.fro fl sz' es)=>if off+len<=es.length/\sz'=sz then some (fl,(es.drop off).take len)else none
|_=>none
def freeze(mem:List Blk)(b:Nat):List Blk:=match mem[b]? with
|some (.row _ fl sz es)=>mem.set b (.fro fl sz es)
|some (.lin _ sz es)=>mem.set b (.fro false sz es)
|_=>mem
def z16r(mem:List Blk)(b sz off len:Nat):Option (Bool×List PV):=
match mem[b]? with
|some (.lin _ sz' es)=>if off+len<=es.length/\sz'=sz then some (false,(es.drop off).take len)else none
|_=>rowAt mem b sz off len
mutual
def PV.viewWith(R:List Nat)(mem:List Blk)(g:Nat->Nat->Option PV):PV->Option PV
|.ref b sz off len=>if R.contains b then(z16r mem b sz off len).map fun x=>.sl x.1 sz x.2 else none
|.nil fl sz=>some (.sl fl sz [])
|.ptr b off=>if R.contains b then g b off else none
|.clo f caps=>(z1gv R mem g caps).map fun c=>.clo f c
|.agg cs=>(z1gv R mem g cs).map .agg
|.int k n=>some (.int k n)
|.bool b=>some (.bool b)
|.str s=>some (.str s)
|.sl fl sz es=>some (.sl fl sz es)
|.pv x off=>if x.refs.isEmpty then some (.pv x off)else none
|.nilp=>some .nilp
|.nilf=>some .nilf
|_=>none
termination_by structural x => x
def z1gv(R:List Nat)(mem:List Blk)(g:Nat->Nat->Option PV):List PV->Option (List PV)
|[]=>some []
|x::xs=>(x.viewWith R mem g).bind fun y=>(z1gv R mem g xs).map fun ys=>y::ys
termination_by structural x => x
end
def z5n(R:List Nat)(mem:List Blk):Nat->Nat->Nat->Option PV
 |0,_,_=>none
 |d+1,b,off=>match mem[b]? with
  |some (.box _ cs)=>(z1gv R mem (z5n R mem d) cs).bind fun cs'=>if cs'.all PV.one then some (.pv (.agg cs') off)else none
  |_=>none
def viewL(R:List Nat)(mem:List Blk)(xs:List PV):Option (List PV):=z1gv R mem (z5n R mem 3) xs
def pub(mem:List Blk):PV->Option (PV×List Blk)
|.ref b sz off len=>(rowAt mem b sz off len).map fun x=>(.sl x.1 sz x.2,freeze mem b)
|.nil fl sz=>some (.sl fl sz [],mem)
|.int k n=>some (.int k n,mem)
|.bool b=>some (.bool b,mem)
|.str s=>some (.str s,mem)
|.sl fl sz es=>some (.sl fl sz es,mem)
|_=>none
def pubL(mem:List Blk):List PV->Option (List PV×List Blk)
|[]=>some ([],mem)
|x::xs=>(pub mem x).bind fun y=>(pubL y.2 xs).map fun ys=>(y.1::ys.1,ys.2)
def pubE(mem:List Blk):PV->Option (PV×List Blk)
|.agg cs=>(pubL mem cs).map fun x=>(.agg x.1,x.2)
|v=>pub mem v
def imp1(mem:List Blk):PV->PV×List Blk
|.un t fl sz es=>(.ref mem.length sz 0 es.length,mem++[.row t fl sz es])
|.unn t sz es=>(.ref mem.length sz 0 es.length,mem++[.lin t sz es])
|v=>(v,mem)
def impL(mem:List Blk):List PV->List PV×List Blk
|[]=>([],mem)
|x::xs=>let y:=imp1 mem x;let ys:=impL y.2 xs;(y.1::ys.1,ys.2)
def impA(mem:List Blk):PV->PV×List Blk
|.agg cs=>let x:=impL mem cs;(.agg x.1,x.2)
|v=>imp1 mem v
def impAL(mem:List Blk):List PV->List PV×List Blk
|[]=>([],mem)
|x::xs=>let y:=impA mem x;let ys:=impAL y.2 xs;(y.1::ys.1,ys.2)
def imp(mem:List Blk):PV->PV×List Blk
|.tup vs=>let x:=impAL mem vs;(.tup x.1,x.2)
|v=>impA mem v
def frz1:PV->PV
|.un _ fl sz es=>.sl fl sz es
|.unn _ sz es=>.sl false sz es
|v=>v
def frzA:PV->PV
|.agg cs=>.agg (cs.map frz1)
|v=>frz1 v
def frz:PV->PV
|.tup vs=>.tup (vs.map frzA)
|v=>frzA v
def z24:PV->Bool
|.int ..|.bool _|.str _|.nil ..|.undef|.unn ..=>false
|.un _ fl _ _=>!fl
|.sl _ _ es=>!es.isEmpty
|_=>true
def z2c:PV->Bool
|.agg cs=>cs.any z24
|v=>z24 v
def alias:PV->Bool
|.tup vs=>vs.any z2c
|v=>z2c v
def res1:PV->Bool
|.int ..|.bool _|.str _|.sl ..|.nil ..|.un ..|.unn ..|.undef=>true
|_=>false
def resA:PV->Bool
|.agg cs=>cs.all res1
|v=>res1 v
def resOk:PV->Bool
|.tup vs=>vs.all resA
|v=>resA v
def exp1(m:Nat)(mem:List Blk):PV->Option (PV×List Blk)
 |.ref b sz off len=>if b<m then some (.ref b sz off len,mem)else match mem[b]? with
  |some (.row t fl sz' es)=>if sz'=sz then(if off=0/\len=es.length then some (.un t fl sz es,mem.set b .dead)else if off=0/\0<len/\len<=es.length then some (.un t fl sz (es.take len),mem.set b .dead)else if off+len<=es.length then some (.sl fl sz ((es.drop off).take len),freeze mem b)else none)else none
  |some (.fro fl sz' es)=>if off+len<=es.length/\sz'=sz then some (.sl fl sz ((es.drop off).take len),mem)else none
  |some (.lin t sz' es)=>if sz'=sz/\off=0/\len=es.length then some (.unn t sz es,mem.set b .dead)else none
  |_=>none
 |.nil fl sz=>some (.nil fl sz,mem)
 |.int k n=>some (.int k n,mem)
 |.bool b=>some (.bool b,mem)
 |.str s=>some (.str s,mem)
 |.sl fl sz es=>some (.sl fl sz es,mem)
 |_=>none
def expL(m:Nat)(mem:List Blk):List PV->Option (List PV×List Blk)
|[]=>some ([],mem)
|x::xs=>(exp1 m mem x).bind fun y=>(expL m y.2 xs).map fun ys=>(y.1::ys.1,ys.2)
def expA(m:Nat)(mem:List Blk):PV->Option (PV×List Blk)
|.agg cs=>(expL m mem cs).map fun x=>(.agg x.1,x.2)
|v=>exp1 m mem v
def expAL(m:Nat)(mem:List Blk):List PV->Option (List PV×List Blk)
|[]=>some ([],mem)
|x::xs=>(expA m mem x).bind fun y=>(expAL m y.2 xs).map fun ys=>(y.1::ys.1,ys.2)
/-! ### Operations on numbers -/
def binI(op:BinOp)(k:IntKind)(a b:Int):Option PV:=
match op with
|.add=>some (.int k (k.wrap (a+b)))
|.sub=>some (.int k (k.wrap (a-b)))
|.mul=>some (.int k (k.wrap (a*b)))
|.quo=>if b=0 then none else some (.int k (k.wrap (a.tdiv b)))
|.rem=>if b=0 then none else some (.int k (a.tmod b))
|.and|.or|.xor|.andNot=>some (.int k (bits op k a b))
|.shl=>if 0<=b then some (.int k (k.wrap (a*2 ^ min b.toNat k.bits)))else none
|.shr=>if 0<=b then some (.int k (a / 2 ^ min b.toNat k.bits))else none
|.eql=>some (.bool (a==b))
|.neq=>some (.bool (a !=b))
|.lss=>some (.bool (decide (a<b)))
|.leq=>some (.bool (decide (a<=b)))
|.gtr=>some (.bool (decide (a>b)))
|.geq=>some (.bool (decide (a>=b)))
def binS(op:BinOp)(a b:ByteArray):Option PV:=
match op with
|.add=>if a.size+b.size<=1099511627776 then some (.str (a++b))else none
|.eql=>some (.bool (a==b))
|.neq=>some (.bool (a !=b))
|_=>none
def binV(bl:Bool)(op:BinOp):PV->PV->Option PV
 |.int k a,.int k' b=>if k=k'\/op=.shl\/op=.shr then binI op k a b else none
 |.bool a,.bool b=>if bl then(match op with
  |.eql=>some (.bool (a==b))
  |.neq=>some (.bool (a !=b))
  |_=>none)else none
 |.str a,.str b=>binS op a b
 |_,_=>none
def eq1:Nat->PV->PV->Option Bool
|0,.int k a,.int k' b=>if k=k' then some (a==b)else none
|1,.bool a,.bool b=>some (a==b)
|2,.str a,.str b=>some (a==b)
|_,_,_=>none
def eqL:List Nat->List PV->List PV->Option Bool
|[],[],[]=>some true
|k::ks,x::xs,y::ys=>(eq1 k x y).bind fun b=>(eqL ks xs ys).map fun c=>b&&c
|_,_,_=>none
/-! ### One operation -/
def ev(rs fr:List PV):Opd->Option PV
|.r j=>rs[j]?
|.v i=>fr[i]?
|.c x=>some x
def evL(rs fr:List PV):List Opd->Option (List PV)
|[]=>some []
|x::xs=>(ev rs fr x).bind fun y=>(evL rs fr xs).map fun ys=>y::ys
def cut(ag:Bool)(off n:Nat)(cs:List PV):Option PV:=
if off+n<=cs.length then(if ag then some (.agg ((cs.drop off).take n))else cs[off]?)else none
def splice(cs:List PV)(off:Nat)(vs:List PV):List PV:=cs.take off++vs++cs.drop (off+vs.length)
def loadV(mem:List Blk)(ag:Bool)(n:Nat):PV->Option PV
 |.ptr b off=>match mem[b]? with
  |some (.box _ cs)=>cut ag off n cs
  |_=>none
 |.ep b sz i off=>match mem[b]? with
  |some (.row _ _ sz' es)=>if sz'=sz then(es[i]?).bind fun e=>cut ag off n e.cells else none
  |some (.fro _ sz' es)=>if sz'=sz then(es[i]?).bind fun e=>cut ag off n e.cells else none
  |_=>none
 |.qep b sz i off=>match mem[b]? with
  |some (.que _ sz' es)=>if sz'=sz then(es[i]?).bind fun e=>cut ag off n e.cells else none
  |_=>none
 |.pv x off=>cut ag off n x.cells
 |_=>none
def zw0(vs:List PV):Bool:=vs.all PV.one
def ztv:Bool->List PV->Option PV
|true,cs=>some (.agg cs)
|false,[c]=>if c.imm1 then some c else none
|false,_=>none
def isAgg:PV->Bool
|.agg _=>true
|_=>false
def storeV(mem:List Blk)(n:Nat)(x y:PV):Option (List Blk):=
 match x with
 |.ptr b off=>
  match mem[b]? with
  |some (.box t cs)=>if off+n<=cs.length/\y.cells.length=n/\zw0 y.cells=true then some (mem.set b (.box t (splice cs off y.cells)))else none
  |_=>none
 |.ep b sz' i off=>(pubE mem y).bind fun y'=>match y'.2[b]? with
  |some (.row t fl sz es)=>match es[i]? with
   |some e=>if sz'=sz/\off+n<=sz/\y'.1.cells.length=n then(ztv (isAgg e) (splice e.cells off y'.1.cells)).bind fun e'=>if okE fl sz e'=true then some (y'.2.set b (.row t fl sz (es.set i e')))else none else none
   |none=>none
  |_=>none
 |_=>none
def idx(i:Int)(n:Nat):Option Nat:=if 0<=i/\i<n then some i.toNat else none
def zkv(mem:List Blk)(sz:Nat)(x i:PV):Option PV:=
match x,i with
|.sl _ sz' es,.int _ i=>if sz'=sz then(idx i es.length).bind fun j=>(es[j]?).map fun e=>.pv e 0 else none
|.ref b sz' off len,.int _ i=>if sz'=sz then(idx i len).map fun j=>.ep b sz (off+j) 0 else none
|.qref b sz' off len,.int _ i=>if sz'=sz then(idx i len).map fun j=>.qep b sz (off+j) 0 else none
|_,_=>none
def bound(dflt:Nat):Option PV->Option Int
|none=>some (dflt:Int)
|some (.int _ n)=>some n
|_=>none
def subV(x:PV)(lo hi:Option PV):Option PV:=
match x with
|.str s=>(bound 0 lo).bind fun l=>(bound s.size hi).bind fun h=>if 0<=l/\l<=h/\h<=s.size then some (.str (s.extract l.toNat h.toNat))else none
|_=>none
def z1b4(mem:List Blk)(sz:Nat)(x:PV)(lo hi:Option PV):Option PV:=
 match x with
 |.sl fl sz' es=>if sz'=sz then(bound 0 lo).bind fun l=>(bound es.length hi).bind fun h=>if 0<=l/\l<=h/\h<=es.length then some (.sl fl sz ((es.take h.toNat).drop l.toNat))else none else none
 |.ref b sz' off len=>match (match mem[b]? with| some (.row _ fl _ es)=>some (fl,es.length)|some (.fro fl _ es)=>some (fl,es.length)|_=>none)with
  |some (fl,n)=>if sz'=sz then(bound 0 lo).bind fun l=>(bound len hi).bind fun h=>if 0<=l/\l<=h/\off+h.toNat<=n then(if l<h\/off+l.toNat<n then some (.ref b sz (off+l.toNat) (h.toNat-l.toNat))else some (.sl fl sz []))else none else none
  |_=>none
 |.nil fl sz'=>if sz'=sz then(bound 0 lo).bind fun l=>(bound 0 hi).bind fun h=>if l=0/\h=0 then some (.nil fl sz)else none else none
 |_=>none
def lenV(st:Bool):PV->Option Nat
|.sl _ _ es=>if st then none else some es.length
|.ref _ _ _ len=>if st then none else some len
|.qref _ _ _ len=>if st then none else some len
|.nil _ _=>if st then none else some 0
|.str s=>if st then some s.size else none
|_=>none
def shown(mem:List Blk):PV->Option (Bool×Nat×List PV)
|.sl fl sz es=>some (fl,sz,es)
|.nil fl sz=>some (fl,sz,[])
|.sle fl sz=>some (fl,sz,[])
|.ref b sz off len=>(rowAt mem b sz off len).map fun x=>(x.1,sz,x.2)
|_=>none
def zt4 : Nat := 68719476736   -- 2^36

def appendV(mem:List Blk)(t:TypeId)(fl:Bool)(sz:Nat)(x y:PV):Option (PV×List Blk):=
 (shown mem y).bind fun s=>if s.2.1=sz/\s.1=fl/\s.2.2.length<=zt4 then
  match x with
  |.nil _ _=>some (.ref mem.length sz 0 s.2.2.length,mem++[.row t fl sz s.2.2])
  |.ref b sx off len=>match mem[b]? with
   |some (.row t' fl' sz' es)=>if t'=t/\fl'=fl/\sz'=sz/\sx=sz then
    (if off=0/\len=es.length/\len<=zt4 then some (.ref mem.length sz 0 (len+s.2.2.length),mem.set b .dead++[.row t fl sz (es++s.2.2)])
    else if off+len+s.2.2.length<=es.length then some (.ref b sz off (len+s.2.2.length),mem.set b (.row t fl sz (splice es (off+len) s.2.2)))
    else if off=0/\len<=es.length/\len<=zt4 then some (.ref mem.length sz 0 (len+s.2.2.length),mem.set b .dead++[.row t fl sz (es.take len++s.2.2)])
    else none)else none
   |_=>none
  |_=>none
 else none
def z7l(zero:List PV):List (Nat×Nat×PV)->Option (List PV)
|[]=>some zero
|(off,n,v)::rest=>if v.cells.length=n/\off+n<=zero.length then z7l (splice zero off v.cells) rest else none
def rowV(fl:Bool)(sz:Nat)(mem:List Blk):List PV->Option (List PV×List Blk)
|[]=>some ([],mem)
|x::xs=>(pubE mem x).bind fun y=>if okE fl sz y.1=true then(rowV fl sz y.2 xs).map fun ys=>(y.1::ys.1,ys.2)else none
def opt(f:Opd->Option PV):Option Opd->Option (Option PV)
|none=>some none
|some x=>(f x).map some
abbrev Orc:=FuncId->List PV->List Blk->Option (PV×List Blk)
def kill(mem:List Blk):List Nat->List Blk
|[]=>mem
|b::bs=>kill (freeze mem b) bs
def reach(mem:List Blk):Nat->List Nat->List Nat
|0,bs=>bs
|d+1,bs=>bs++reach mem d (bs.flatMap fun b=>match mem[b]? with| some k=>k.refs|none=>[])
def callV(orc:Orc)(dr:Bool)(mem:List Blk)(f:FuncId)(args:List PV):Option (PV×List Blk):=
 let R:=reach mem 3 (refsL args)
 (viewL R mem args).bind fun vs=>(orc f vs []).bind fun r=>
  if resOk r.1 then
   (if alias r.1=false\/R.isEmpty=true then some (if dr then(frz r.1,mem)else imp mem r.1)
   else if dr then none
   else some (imp (kill mem R) r.1))
  else none
def select(I:List Nat)(mem:List Blk):Option (List Blk):=
if decide I.Nodup&&I.all fun b=>(match mem[b]? with| some k=>k.refs.all fun r=>I.contains r|none=>false)then some (I.map fun b=>(mem.getD b .dead).ren I.idxOf)else none
def callM(orc:Orc)(mem:List Blk)(f:FuncId)(args:List PV):Option (PV×List Blk):=
 let I:=(reach mem 2 (refsL args)).eraseDups
 if (refsL args).all fun r=>I.contains r then
  (select I mem).bind fun M=>(orc f (renL I.idxOf args) M).bind fun r=>
   if I.length<=r.2.length then
    let back:=fun j=>(I[j]?).getD (mem.length+(j-I.length))
    let M':=r.2.map (Blk.ren back)
    some (imp ((mem.mapIdx fun b k=>if I.contains b then M'.getD (I.idxOf b) .dead else k)++M'.drop I.length) (r.1.ren back))
   else none
 else none
def z7s:PV->Option UInt8
|.int .u8 n=>if 0<=n/\n<256 then some n.toNat.toUInt8 else none
|_=>none
def znv(ne:Bool):PV->Option PV
|.nil _ _=>some (.bool (!ne))
|.ref _ _ _ len=>if len=0 then none else some (.bool ne)
|.sl _ _ es=>if es.isEmpty then none else some (.bool ne)
|.sle _ _=>some (.bool ne)
|_=>none
def zfy(off:Nat):PV->Option PV
|.ptr b o=>some (.ptr b (o+off))
|.ep b sz i o=>some (.ep b sz i (o+off))
|.pv v o=>some (.pv v (o+off))
|_=>none
def zv2:PV->Option PV
|.ptr b o=>some (.ptr b o)
|.ep b sz i o=>some (.ep b sz i o)
|.pv v o=>some (.pv v o)
|_=>none
def linP(mem:List Blk):PV->Option (PV×List Blk)
 |.ref j sz off len=>match mem[j]? with
  |some (.row _ fl sz' es)=>if fl=true/\sz'=sz/\off=0/\len=es.length then some (.sl true sz es,mem.set j .dead)else none
  |_=>none
 |.nil fl sz=>some (.sl fl sz [],mem)
 |.sl fl sz es=>if es.isEmpty then some (.sl fl sz [],mem)else none
 |.int k n=>some (.int k n,mem)
 |.bool b=>some (.bool b,mem)
 |.str s=>some (.str s,mem)
 |_=>none
def linL(mem:List Blk):List PV->Option (List PV×List Blk)
|[]=>some ([],mem)
|x::xs=>(linP mem x).bind fun y=>(linL y.2 xs).map fun ys=>(y.1::ys.1,ys.2)
def linE(mem:List Blk):PV->Option (PV×List Blk)
|.agg cs=>(linL mem cs).map fun x=>(.agg x.1,x.2)
|v=>linP mem v
def linR(sz:Nat)(mem:List Blk):List PV->Option (List PV×List Blk)
|[]=>some ([],mem)
|x::xs=>(linE mem x).bind fun y=>if okE false sz y.1=true then(linR sz y.2 xs).map fun ys=>(y.1::ys.1,ys.2)else none
def linZ(c:PV):Bool:=c.scalar||(match c with| .nil ..=>true|_=>false)
def applV(mem:List Blk)(t:TypeId)(fl:Bool)(sz:Nat)(x y:PV):Option (PV×List Blk):=
 match y with
 |.ref b2 s2 o2 l2=>match mem[b2]? with
  |some (.lin t2 sz2 es2)=>if t2=t/\sz2=sz/\s2=sz/\o2=0/\l2=es2.length/\l2<=zt4/\fl=false then
   (match x with
   |.nil _ _=>some (.ref mem.length sz 0 l2,mem.set b2 .dead++[.lin t sz es2])
   |.ref b sx off len=>match mem[b]? with
    |some (.lin t1 sz1 es)=>if t1=t/\sz1=sz/\sx=sz/\off=0/\len=es.length/\len<=zt4/\b≠b2 then some (.ref mem.length sz 0 (len+l2),(mem.set b2 .dead).set b .dead++[.lin t sz (es++es2)])else none
    |_=>none
   |_=>none)else none
  |_=>appendV mem t fl sz x y
 |_=>appendV mem t fl sz x y
def stlV(mem:List Blk)(n:Nat)(x y:PV):Option (List Blk):=
 match x with
 |.ep b sz' i off=>match mem[b]? with
  |some (.lin ..)=>(linE mem y).bind fun y'=>match y'.2[b]? with
   |some (.lin t sz es)=>match es[i]? with
    |some e=>if sz'=sz/\off+n<=sz/\y'.1.cells.length=n then(ztv (isAgg e) (splice e.cells off y'.1.cells)).bind fun e'=>if okE false sz e'=true then some (y'.2.set b (.lin t sz (es.set i e')))else none else none
    |none=>none
   |_=>none
  |some (.hol _ _ _ i0 off0)=>(linE mem y).bind fun y'=>match y'.2[b]? with
   |some (.hol t sz es _ _)=>match es[i]? with
    |some e=>if sz'=sz/\i=i0/\off=off0/\n=1/\y'.1.cells.length=1 then(ztv (isAgg e) (splice e.cells off y'.1.cells)).bind fun e'=>if okE false sz e'=true then some (y'.2.set b (.lin t sz (es.set i e')))else none else none
    |none=>none
   |_=>none
  |_=>storeV mem n x y
 |_=>storeV mem n x y
def ldtV(t:TypeId)(mem:List Blk)(x:PV):Option (PV×List Blk):=
 match x with
 |.ep b sz i off=>match mem[b]? with
  |some (.lin tl sz' es)=>if sz'=sz then(es[i]?).bind fun e=>match e.cells[off]? with
    |some (.sl true s1 xs)=>if xs.isEmpty then none else(ztv (isAgg e) (splice e.cells off [.int .i64 0])).bind fun e'=>if okE false sz e'=true then some (.ref mem.length s1 0 xs.length,mem.set b (.hol tl sz (es.set i e') i off)++[.row t true s1 xs])else none
    |some (.nil fl s1)=>some (.nil fl s1,mem)
    |_=>none
   else none
  |_=>(loadV mem false 1 x).map fun v=>(v,mem)
 |_=>(loadV mem false 1 x).map fun v=>(v,mem)
def ldfV(mem:List Blk)(x:PV):Option (PV×List Blk):=
 match x with
 |.ep b _ _ _=>match mem[b]? with
  |some (.lin ..)=>(loadV (freeze mem b) false 1 x).map fun v=>(v,freeze mem b)
  |_=>(loadV mem false 1 x).map fun v=>(v,mem)
 |_=>(loadV mem false 1 x).map fun v=>(v,mem)
def slqV(mem:List Blk)(sz:Nat)(x lo:PV):Option (PV×List Blk):=
 match x,lo with
 |.ref b sz' off len,.int k l=>match mem[b]? with
  |some (.row t true sz2 es)=>if sz'=sz/\sz2=sz/\0<=l/\l<=len/\off+len=es.length/\0<es.length then some (.qref mem.length sz (off+l.toNat) (len-l.toNat),mem.set b .dead++[.que t sz es])else none
  |_=>(z1b4 mem sz x (some (.int k l)) none).map fun r=>(r,mem)
 |.qref b sz' off len,.int _ l=>match mem[b]? with
  |some (.que ..)=>if sz'=sz/\0<=l/\l<=len then some (.qref b sz (off+l.toNat) (len-l.toNat),mem)else none
  |_=>none
 |x,lo=>(z1b4 mem sz x (some lo) none).map fun r=>(r,mem)
def apqV(mem:List Blk)(t:TypeId)(sz:Nat)(x y:PV):Option (PV×List Blk):=
 match x with
 |.qref b sx off len=>(shown mem y).bind fun s=>match mem[b]? with
  |some (.que t' sz' es)=>if s.1=true/\s.2.1=sz/\t'=t/\sz'=sz/\sx=sz/\off+len=es.length/\len<=zt4/\s.2.2.length<=zt4/\0<s.2.2.length then some (.qref mem.length sz 0 (len+s.2.2.length),mem.set b .dead++[.que t sz (es.drop off++s.2.2)])else none
  |_=>none
 |_=>appendV mem t true sz x y
def clrV(mem:List Blk)(z:PV):PV->Option (List Blk)
 |.nil _ _=>some mem
 |.ref b sz off len=>if len=0 then some mem else match mem[b]? with
  |some (.row t fl sz' es)=>if sz'=sz/\off+len<=es.length/\okE fl sz z=true then some (mem.set b (.row t fl sz (splice es off (L'0 len z))))else none
  |_=>none
 |_=>none
def copyV(mem:List Blk)(sx:Nat)(x y:PV):Option (Nat×List Blk):=
 match x with
 |.ref b sz off len=>(shown mem y).bind fun s=>match mem[b]? with
  |some (.row t fl sz' es)=>if sx=sz/\sz'=sz/\s.2.1=sz/\s.1=fl/\off+len<=es.length/\0<len/\0<s.2.2.length/\len<=zt4 then some (min s.2.2.length len,mem.set b (.row t fl sz (splice es off (s.2.2.take (min s.2.2.length len)))))else none
  |_=>none
 |_=>none
def chk3V(l h m:Int):PV->Option PV
|.ref _ _ _ len=>if 0<=l/\l<=h/\h<=m/\m<=len then some .any else none
|.sl _ _ es=>if 0<=l/\l<=h/\h<=m/\m<=es.length then some .any else none
|_=>none
def z1cm(orc:Orc)(rs fr:List PV)(mem:List Blk):IOp->Option (PV×List Blk)
 |.mov x=>(ev rs fr x).map fun v=>(v,mem)
 |.pick c a b=>match ev rs fr c with
  |some (.bool true)=>(ev rs fr a).map fun v=>(v,mem)
  |some (.bool false)=>(ev rs fr b).map fun v=>(v,mem)
  |_=>none
 |.neg x=>match ev rs fr x with
  |some (.int k n)=>some (.int k (k.wrap (0-n)),mem)
  |_=>none
 |.not x=>match ev rs fr x with
  |some (.bool b)=>some (.bool (!b),mem)
  |_=>none
 |.bin bl op x y=>match ev rs fr x,ev rs fr y with
  |some a,some b=>(binV bl op a b).map fun v=>(v,mem)
  |_,_=>none
 |.eqs ne ks x y=>match ev rs fr x,ev rs fr y with
  |some (.agg a),some (.agg b)=>(eqL ks a b).map fun v=>(.bool (v !=ne),mem)
  |_,_=>none
 |.isnil ne x=>(ev rs fr x).bind fun v=>(znv ne v).map fun r=>(r,mem)
 |.alloc t cs=>some (.ptr mem.length 0,mem++[.box t cs])
 |.box t n x=>(ev rs fr x).bind fun v=>if v.cells.length=n/\zw0 v.cells=true then some (.ptr mem.length 0,mem++[.box t v.cells])else none
 |.load ag n x=>(ev rs fr x).bind fun p=>(loadV mem ag n p).map fun v=>(v,mem)
 |.store n x y=>match ev rs fr x,ev rs fr y with
  |some p,some v=>(storeV mem n p v).map fun mem'=>(.undef,mem')
  |_,_=>none
 |.faddr off x=>(ev rs fr x).bind fun v=>(zfy off v).map fun r=>(r,mem)
 |.field ag off n x=>match ev rs fr x with
  |some (.agg cs)=>(cut ag off n cs).map fun v=>(v,mem)
  |_=>none
 |.iaddr sz x i=>match ev rs fr x,ev rs fr i with
  |some a,some b=>(zkv mem sz a b).map fun v=>(v,mem)
  |_,_=>none
 |.stri x i=>match ev rs fr x,ev rs fr i with
  |some (.str s),some (.int _ n)=>if 0<=n then(s[n.toNat]?).map fun b=>(.int .u8 b.toNat,mem)else none
  |_,_=>none
 |.slice sz x lo hi=>(ev rs fr x).bind fun v=>(opt (ev rs fr) lo).bind fun l=>(opt (ev rs fr) hi).bind fun h=>(z1b4 mem sz v l h).map fun r=>(r,mem)
 |.sub x lo hi=>(ev rs fr x).bind fun v=>(opt (ev rs fr) lo).bind fun l=>(opt (ev rs fr) hi).bind fun h=>(subV v l h).map fun r=>(r,mem)
 |.extract x i=>match ev rs fr x with
  |some (.tup vs)=>(vs[i]?).map fun v=>(v,mem)
  |_=>none
 |.ncheck x=>(ev rs fr x).bind fun v=>(zv2 v).map fun r=>(r,mem)
 |.build zero parts=>(evL rs fr (parts.map fun p=>p.2.2)).bind fun vs=>if vs.all fun v=>zw0 v.cells then(z7l zero ((parts.zip vs).map fun p=>(p.1.1,p.1.2.1,p.2))).map fun cs=>(.agg cs,mem)else none
 |.bslice q t fl sz parts=>(evL rs fr parts).bind fun vs=>if q=true/\¬(refsL vs).isEmpty then none else(rowV fl sz mem vs).map fun x=>(.ref x.2.length sz 0 x.1.length,x.2++[.row t fl sz x.1])
 |.mk t fl sz zero n=>match ev rs fr n with
  |some (.int _ k)=>if 0<=k/\k<=zt4 then some (.ref mem.length sz 0 k.toNat,mem++[.row t fl sz (L'0 k.toNat zero)])else none
  |_=>none
 |.mkfn f caps=>(evL rs fr caps).bind fun cs=>if zw0 cs then some (.clo f cs,mem)else none
 |.conv k x=>match ev rs fr x with
  |some (.int _ n)=>some (.int k (k.wrap n),mem)
  |_=>none
 |.call q f args=>(evL rs fr args).bind fun vs=>callV orc q mem f vs
 |.callv q x args=>match ev rs fr x with
  |some (.clo f caps)=>(evL rs fr args).bind fun vs=>callV orc q mem f (vs++caps)
  |_=>none
 |.len st x=>(ev rs fr x).bind fun v=>(lenV st v).map fun(n:Nat)=>(.int .i64 (Int.ofNat n),mem)
 |.append t fl sz x y=>match ev rs fr x,ev rs fr y with
  |some a,some b=>appendV mem t fl sz a b
  |_,_=>none
 |.mnmx mx x y=>match ev rs fr x,ev rs fr y with
  |some (.int k a),some (.int k' b)=>if k=k' then some (.int k (if mx then(if b>a then b else a)else(if b<a then b else a)),mem)else none
  |_,_=>none
 |.callm f args=>(evL rs fr args).bind fun vs=>callM orc mem f vs
 |.strb x=>(ev rs fr x).bind fun v=>(shown mem v).bind fun s=>(s.2.2.mapM z7s).map fun bs=>(.str ⟨bs.toArray⟩,mem)
 |.nilrow t fl sz=>some (.ref mem.length sz 0 0,mem++[.row t fl sz []])
 |.clr z x=>(ev rs fr x).bind fun v=>(clrV mem z v).map fun m=>(.tup [],m)
 |.chk3 x lo hi mx=>match ev rs fr x,ev rs fr lo,ev rs fr hi,ev rs fr mx with
  |some v,some (.int _ l),some (.int _ h),some (.int _ m)=>(chk3V l h m v).map fun r=>(r,mem)
  |_,_,_,_=>none
 |.mkl t sz zero n=>match ev rs fr n with
  |some (.int _ k)=>if 0<=k/\k<=zt4/\zero.cells.all linZ=true then some (.ref mem.length sz 0 k.toNat,mem++[.lin t sz (L'0 k.toNat zero)])else none
  |_=>none
 |.nill t sz=>some (.ref mem.length sz 0 0,mem++[.lin t sz []])
 |.bsl t sz parts=>(evL rs fr parts).bind fun vs=>(linR sz mem vs).map fun x=>(.ref x.2.length sz 0 x.1.length,x.2++[.lin t sz x.1])
 |.appl t fl sz x y=>match ev rs fr x,ev rs fr y with
  |some a,some b=>applV mem t fl sz a b
  |_,_=>none
 |.stl n x y=>match ev rs fr x,ev rs fr y with
  |some p,some v=>(stlV mem n p v).map fun mem'=>(.undef,mem')
  |_,_=>none
 |.ldt t x=>(ev rs fr x).bind fun p=>ldtV t mem p
 |.ldf x=>(ev rs fr x).bind fun p=>ldfV mem p
 |.slq sz x lo=>match ev rs fr x,ev rs fr lo with
  |some a,some b=>slqV mem sz a b
  |_,_=>none
 |.apq t sz x y=>match ev rs fr x,ev rs fr y with
  |some a,some b=>apqV mem t sz a b
  |_,_=>none
 |.copy sz x y=>match ev rs fr x,ev rs fr y with
  |some a,some b=>(copyV mem sz a b).map fun r=>(.int .i64 (Int.ofNat r.1),r.2)
  |_,_=>none
 |.bad=>none
def wanted(rs:List PV):Option (Nat×Bool)->Option Bool
 |none=>some true
 |some (j,b)=>match rs[j]? with
  |some (.bool c)=>some (c==b)
  |some .undef=>some false
  |_=>none
def setFr(fr:List PV):Option Nat->PV->List PV
|none,_=>fr
|some i,v=>fr.set i v
def z1cq(orc:Orc)(rs fr:List PV)(mem:List Blk)(o:IOper):Option (PV×List PV×List Blk):=
(wanted rs o.guard).bind fun w=>
 if w then(z1cm orc rs fr mem o.op).map fun x=>(x.1,setFr fr o.dst x.1,x.2)
 else some (.undef,setFr fr o.dst .undef,mem)
def opds:IOp->List Opd
|.mov x|.neg x|.not x|.isnil _ x|.box _ _ x|.load _ _ x|.faddr _ x|.field _ _ _ x|.extract x _|.ncheck x|.mk _ _ _ _ x|.conv _ x|.len _ x|.strb x|.clr _ x|.mkl _ _ _ x|.ldt _ x|.ldf x=>[x]
|.chk3 x l h m=>[x,l,h,m]
|.bin _ _ x y|.eqs _ _ x y|.store _ x y|.iaddr _ x y|.stri x y|.append _ _ _ x y|.mnmx _ x y|.appl _ _ _ x y|.stl _ x y|.slq _ x y|.apq _ _ x y|.copy _ x y=>[x,y]
|.pick x y z=>[x,y,z]
|.slice _ x l h|.sub x l h=>x::(l.toList++h.toList)
|.build _ ps=>ps.map fun p=>p.2.2
|.bslice _ _ _ _ ps|.mkfn _ ps|.call _ _ ps|.callm _ ps|.bsl _ _ ps=>ps
|.callv _ x ps=>x::ps
|.alloc ..|.nilrow ..|.nill ..|.bad=>[]
def isC:IOp->Bool
|.call ..|.callv ..=>true
|_=>false
def rowsh:Option Blk->Bool
|some (.row ..)|some (.lin ..)=>true
|_=>false
def filtR(mem:List Blk):List Nat->List Nat
|[]=>[]
|b::bs=>if rowsh mem[b]? then b::filtR mem bs else filtR mem bs
def foot(rs fr:List PV)(mem:List Blk)(op:IOp):List Nat:=match evL rs fr (opds op)with
|some vs=>if isC op then filtR mem (reach mem 3 (refsL vs))else reach mem 3 (refsL vs)
|none=>[]
def footR(rs fr:List PV)(op:IOp):List Nat:=match evL rs fr (opds op)with
|some vs=>refsL vs
|none=>[]
def z17z(orc:Orc):List IOper->(rs fr:List PV)->(mem:List Blk)->Option St
|[],_,fr,mem=>some ⟨fr,mem⟩
|o::os,rs,fr,mem=>(z1cq orc rs fr mem o).bind fun x=>z17z orc os (rs++[x.1]) x.2.1 x.2.2
def runDr(orc:Orc):List IOper->(rs fr:List PV)->(mem:List Blk)->(ft:List (List Nat×List Nat))->Option (St×List (List Nat×List Nat))
|[],_,fr,mem,ft=>some (⟨fr,mem⟩,ft)
|o::os,rs,fr,mem,ft=>(z1cq orc rs fr mem o).bind fun x=>runDr orc os (rs++[x.1]) x.2.1 x.2.2 (ft++[(foot rs fr mem o.op,footR rs fr o.op)])
def chkOk(chk:List (Nat×Nat))(ft:List (List Nat×List Nat)):Bool:=
chk.all fun c=>match ft[c.1]?,ft[c.2]? with
 |some a,some b=>a.1.all fun x=>!b.2.contains x
 |_,_=>false
def z187(orc:Orc)(chk:List (Nat×Nat))(ops:List IOper)(st:St):Option St:=
if chk.isEmpty then z17z orc ops [] st.fr st.mem
else(runDr orc ops [] st.fr st.mem []).bind fun x=>if chkOk chk x.2 then some x.1 else none
/-! ### Code -/
def clean(keep:List Bool)(fr:List PV):List PV:=(fr.zip keep).map fun x=>if x.2 then x.1 else .any
def gc(m:Nat)(st:St):St:=
let I:=L'1 m++((reach st.mem 3 (refsL st.fr++L'1 m)).filter (m<=·)).eraseDups
if (refsL st.fr).all fun b=>I.contains b then(match select I st.mem with
 |some M=>⟨renL I.idxOf st.fr,M⟩
 |none=>st)else st
def iter(body:St->Option Out)(prep:St->St):Nat->St->Option Out
 |0,_=>none
 |n+1,st=>match body (prep st)with
  |some (.next st')=>iter body prep n st'
  |r=>r
structure KC where
sz:Nat
off:Nat
f:FuncId
ia:Nat
ii:Nat
ik:Nat
d:Nat
def zoq:List IOper->Option KC
|[⟨none,.mov (.v ia),none⟩,⟨none,.mov (.v ii),none⟩,⟨none,.iaddr sz (.r 0) (.r 1),none⟩,⟨none,.faddr off (.r 2),none⟩,⟨none,.load false 1 (.r 3),none⟩,⟨none,.mov (.v ik),none⟩,⟨none,.callm f [.r 4,.r 5],none⟩,⟨some d,.mov (.r 6),none⟩]=>some ⟨sz,off,f,ia,ii,ik,d⟩
|[⟨none,.mov (.v ia),none⟩,⟨none,.mov (.v ii),none⟩,⟨none,.iaddr sz (.r 0) (.r 1),none⟩,⟨none,.load false 1 (.r 2),none⟩,⟨none,.mov (.v ik),none⟩,⟨none,.callm f [.r 3,.r 4],none⟩,⟨some d,.mov (.r 5),none⟩]=>some ⟨sz,0,f,ia,ii,ik,d⟩
|_=>none
def zoa(orc:Orc)(f:FuncId)(sz off:Nat)(e:PV)(k:PV):Option (PV×PV):=
 match e.cells[off]?,k with
 |some (.sl true s1 es),.int kk n=>
  if es.isEmpty then(orc f [.sl true s1 [],.int kk n] []).bind fun r=>match r.1 with
   |.int k2 n2=>some (.int k2 n2,e)
   |_=>none
  else(orc f [.ref 0 s1 0 es.length,.int kk n] [.row 0 true s1 es]).bind fun r=>match r.1,r.2 with
   |.int k2 n2,[.row _ true s2 es2]=>if s2=s1/\es2.length=es.length then(ztv (isAgg e) (splice e.cells off [.sl true s1 es2])).bind fun e'=>if okE false sz e'=true then some (.int k2 n2,e')else none else none
   |_,_=>none
 |_,_=>none
def kcall(orc:Orc)(k:KC)(st:St):Option St:=
 match st.fr[k.ia]?,st.fr[k.ii]?,st.fr[k.ik]? with
 |some (.ref b s o len),some (.int _ i),some kv=>if s=k.sz then(idx i len).bind fun j=>match st.mem[b]? with
  |some (.lin t sz es)=>if sz=k.sz then(es[o+j]?).bind fun e=>(zoa orc k.f k.sz k.off e kv).map fun r=>⟨st.fr.set k.d r.1,st.mem.set b (.lin t sz (es.set (o+j) r.2))⟩else none
  |_=>none else none
 |_,_,_=>none
def exec(orc:Orc)(m n:Nat):ICode->St->Option Out
 |.skip,st=>some (.next st)
 |.region _ chk ops,st=>(z187 orc chk ops st).map .next
 |.seq a b,st=>match exec orc m n a st with
  |some (.next st')=>exec orc m n b st'
  |r=>r
 |.cond c a b,st=>match ev [] st.fr c with
  |some (.bool true)=>exec orc m n a st
  |some (.bool false)=>exec orc m n b st
  |_=>none
 |.block id b,st=>match exec orc m n b st with
  |some (.exit i st')=>if i=id then some (.next st')else some (.exit i st')
  |r=>r
 |.loop keep b,st=>iter (exec orc m n b) (fun s=>gc m ⟨clean keep s.fr,s.mem⟩) n st
 |.exit id,st=>some (.exit id st)
 |.scope b,st=>exec orc m n b st
 |.ret,st=>some (.ret st)
 |.kreg ops,st=>(zoq ops).bind fun k=>(kcall orc k st).map .next
/-! ### Functions -/
def resV(st:St):IRes->Option PV
|.v i=>st.fr[i]?
|.cell ag n i=>(st.fr[i]?).bind fun p=>loadV st.mem ag n p
def resL(st:St):List IRes->Option (List PV)
|[]=>some []
|x::xs=>(resV st x).bind fun y=>(resL st xs).map fun ys=>y::ys
def close(m:Nat)(mem:List Blk):Option (List Blk):=
select (L'1 m++(refsL ((mem.take m).flatMap fun b=>match b with| .box _ cs=>cs|_=>[])).filter (m<=·)) mem
def packP:List PV->PV
|[v]=>v
|vs=>.tup vs
def zgq(m:Nat)(rs:List IRes)(st:St):Option (PV×List Blk):=
(resL st rs).bind fun vs=>(expAL m st.mem vs).bind fun x=>if (refsL x.1).all fun b=>decide (b<m)then(close m x.2).map fun M=>(packP x.1,M)else none
def start(fn:IFun)(args:List PV):List PV:=fn.slots.map fun s=>args.getD s .undef
def callN(F:FuncId->Option IFun)(ext:FuncId->Option (List PV->Option PV)):Nat->Orc
 |0,_,_,_=>none
 |n+1,f,args,M=>match ext f with
  |some e=>if M.isEmpty then(e args).map fun r=>(r,[])else none
  |none=>(F f).bind fun fn=>match exec (callN F ext n) M.length n fn.body ⟨start fn args,M⟩with
   |some (.ret st)=>zgq M.length fn.results st
   |some (.next st)=>zgq M.length fn.results st
   |_=>none
end Go.Proofs.YtbaclnecajkknaaGreat.Pi

