/- Pi: from a loaded function to what the interpreter runs. Definitions alone; no condition. -/
import Derived.Test.YtbaclnecajkknaaGreatPiDefs
open List renaming range->L'1
namespace Go.Proofs.YtbaclnecajkknaaGreat.Pi
open Go
set_option linter.all false

def flatT(P:Program):Nat->TypeId->Bool
 |0,_=>false
 |d+1,t=>match P.underlying t with
  |some (.int _)|some .bool|some .string=>true
  |some (.struct fs)=>fs.toList.all fun f=>flatT P d f.type
  |_=>false
def flat(P:Program)(t:TypeId):Bool:=flatT P 6 t
def zdg(P:Program)(t:TypeId):Option TypeId:=match P.underlying t with
|some (.slice e)=>some e
|_=>none
def aggT(P:Program)(t:TypeId):Bool:=match P.underlying t with
|some (.struct _)=>true
|some (.array _ _)=>true
|_=>false
def zg5(P:Program)(t:TypeId)(i:Nat):Option Field:=match P.underlying t with
|some (.struct fs)=>fs[i]?
|_=>none
def zbr(P:Program):Nat->TypeId->Value->Option PV
 |_,_,.int k n=>some (.int k n)
 |_,_,.bool b=>some (.bool b)
 |_,_,.string s=>some (.str s)
 |_,_,.pointer none=>some .nilp
 |_,_,.nilFunc=>some .nilf
 |_,t,.slice none 0 0=>(zdg P t).map fun e=>.nil (flat P e) (P.cellsOf e)
 |0,_,_=>none
 |d+1,t,.agg cs=>match P.underlying t with
  |some (.struct fs)=>((fs.toList.mapM fun f=>if P.cellsOf f.type=1 then(cs[f.offset]?).bind (zbr P d f.type)else zbr P d f.type (.agg (cs.extract f.offset (f.offset+P.cellsOf f.type)))).map fun ps=>.agg (ps.flatMap PV.cells))
  |_=>none
 |_,_,_=>none
mutual
def sameV:PV->Value->Bool
|.int k n,.int k' n'=>decide (k=k')&&decide (n=n')
|.bool b,.bool b'=>b==b'
|.str s,.string s'=>decide (s.data=s'.data)
|.nil _ _,.slice a l c=>a.isNone&&l==0&&c==0
|.nilp,.pointer a=>a.isNone
|.nilf,.nilFunc=>true
|.agg cs,.agg vs=>sameL cs vs.toList
|_,_=>false
termination_by structural x => x
def sameL:List PV->List Value->Bool
|[],[]=>true
|x::xs,v::vs=>sameV x v&&sameL xs vs
|_,_=>false
termination_by structural x => x
end
def zbs(P:Program)(t:TypeId)(v:Value):Option PV:=(zbr P 4 t v).bind fun x=>if sameV x v then some x else none
def zop (P : Program) (t : TypeId) (fs : Array Field) : Option (List Nat) :=
  if P.stoodInHeld t || P.eqGuardType P.depth t then none else
  (fs.toList.zipIdx.mapM fun p => if p.1.name ≠ "_" /\ p.1.offset = p.2 then (match P.underlying p.1.type with
    | some (.int _) => some 0
    | some .bool => some 1
    | some .string => some 2
    | _ => none) else none)

structure Md where
  m : FuncId -> Bool
  l : Bool
  k : Bool := false                -- rows are taken out of rows and put back; rows grow at their end while they are read

structure Ctx where
  slots : List Nat                -- the frame's slots
  ops : List (Option Nat)         -- this region's operations so far: their slots
  deriving Inhabited

def opdOf(P:Program)(c:Ctx)(t:TypeId):Operand->Option Opd
 |.tmp s=>match c.slots.idxOf? s with
  |some i=>some (.v i)
  |none=>(c.ops.idxOf? (some s)).map .r
 |.const v=>(zbs P t v).map .c
 |.func f=>some (.c (.clo f []))
 |.global _=>none
def z1i6(P:Program)(t:TypeId):Option PV:=((P.info? t).bind (·.zero)).bind (zbs P t)
def z18u:Operand->Operand->Bool
|.tmp a,.tmp b=>a==b
|.const (.int _ a),.const (.int _ b)=>a==b
|_,_=>false
def znu(P:Program)(t:TypeId):Bool:=match P.underlying t with
|some (.struct _)=>true
|_=>false
def nilOf(P:Program)(t:TypeId):Operand->Option TypeId
|.const (.slice none 0 0)=>zdg P t
|_=>none
def opOf (P:Program) (mf:Md) (q:Bool) (c:Ctx) (o:Oper):Option IOp:=
 let x:=opdOf P c 0
 match o.op with
 |.move a|.assign a=>match nilOf P o.type a with
  |some e=>some (if mf.l&&!flat P e then .nill e (P.cellsOf e)else .nilrow e (flat P e) (P.cellsOf e))
  |none=>(opdOf P c o.type a).map .mov
 |.pick q a b=>(x q).bind fun q=>(opdOf P c o.type a).bind fun a=>(opdOf P c o.type b).map fun b=>.pick q a b
 |.unOp .neg _ a=>(x a).map .neg
 |.unOp .not _ a=>(x a).map .not
 |.binOp op t a b _=>match op,P.underlying t,a,b with
  |.eql,some (.slice _),a,.const (.slice none 0 0)=>(opdOf P c t a).map fun a=>.isnil false a
  |.neq,some (.slice _),a,.const (.slice none 0 0)=>(opdOf P c t a).map fun a=>.isnil true a
  |.eql,some (.struct fs),a,b=>(zop P t fs).bind fun ks=>(opdOf P c t a).bind fun a=>(opdOf P c t b).map fun b=>.eqs false ks a b
  |.neq,some (.struct fs),a,b=>(zop P t fs).bind fun ks=>(opdOf P c t a).bind fun a=>(opdOf P c t b).map fun b=>.eqs true ks a b
  |op,some (.int _),a,b|op,some .string,a,b=>(x a).bind fun a=>(x b).map fun b=>.bin false op a b
  |op,some .bool,a,b=>(x a).bind fun a=>(x b).map fun b=>.bin true op a b
  |_,_,_,_=>none
 |.alloc t=>(z1i6 P t).bind fun z=>if zw0 z.cells then some (.alloc t z.cells)else none
 |.box t a=>(opdOf P c t a).map fun a=>.box t (P.cellsOf t) a
 |.load t a=>if (P.underlying t).isSome then(x a).map fun a=>(match (if mf.k&&!aggT P t&&P.cellsOf t==1 then zdg P t else none)with| some e=>if flat P e then(if (o.dst.bind c.slots.idxOf?).isSome then .ldf a else .ldt e a)else .load (aggT P t) (P.cellsOf t) a|none=>.load (aggT P t) (P.cellsOf t) a)else none
 |.store t a b=>if (P.underlying t).isSome then(x a).bind fun a=>(opdOf P c t b).map fun b=>(if mf.l then .stl (P.cellsOf t) a b else .store (P.cellsOf t) a b)else none
 |.nilCheck a=>(x a).map .ncheck
 |.convert s t a=>match P.underlying s,P.underlying t with
  |some (.int _),some (.int k)=>(x a).map (.conv k)
  |some (.slice e),some .string=>match P.underlying e with
   |some (.int .u8)=>(opdOf P c s a).map .strb
   |_=>none
  |_,_=>none
 |.makeFunc (.func f) first caps=>if first.size=0 then(caps.toList.mapM x).map (.mkfn f)else none
 |.makeSlice t l cp=>if z18u l cp then(zdg P t).bind fun e=>(z1i6 P e).bind fun z=>(x l).bind fun l=>if okE (flat P e) (P.cellsOf e) z&&decide (P.bytesOf e<=4096)then some (if mf.l&&!flat P e then .mkl e (P.cellsOf e) z l else .mk e (flat P e) (P.cellsOf e) z l)else none else none
 |.slice t a lo hi none=>(x a).bind fun a=>
   let o':Option Operand->Option (Option Opd):=fun y=>match y with| none=>some none|some y=>(x y).map some
   (o' lo).bind fun lo=>(o' hi).bind fun hi=>match P.underlying t with
    |some .string=>some (.sub a lo hi)
    |some (.slice e)=>if (P.underlying e).isSome then(match (if mf.k then lo else none),hi with| some lo,none=>some (.slq (P.cellsOf e) a lo)|_,_=>some (.slice (P.cellsOf e) a lo hi))else none
    |_=>none
 |.slice t a (some lo) (some hi) (some mx)=>(zdg P t).bind fun e=>if (P.underlying e).isSome then(x a).bind fun a=>(x lo).bind fun lo=>(x hi).bind fun hi=>(x mx).map fun mx=>.chk3 a lo hi mx else none
 |.fieldAddr s a f=>(zg5 P s f).bind fun fd=>if (P.underlying fd.type).isSome&&decide (0<P.cellsOf fd.type)then(x a).map fun a=>.faddr fd.offset a else none
 |.field s a f=>(zg5 P s f).bind fun fd=>if (P.underlying fd.type).isSome then(x a).map fun a=>.field (aggT P fd.type) fd.offset (P.cellsOf fd.type) a else none
 |.indexAddr t a i=>(zdg P t).bind fun e=>if (P.underlying e).isSome then(x a).bind fun a=>(x i).map fun i=>.iaddr (P.cellsOf e) a i else none
 |.index t a i=>match P.underlying t with
  |some .string=>(x a).bind fun a=>(x i).map fun i=>.stri a i
  |_=>none
 |.extract a i=>(x a).map fun a=>.extract a i
 |.build t parts=>(z1i6 P t).bind fun z=>if zw0 z.cells&&znu P t&&(P.fieldsOf t).toList.all (fun f=>(P.underlying f.type).isSome)then(parts.toList.mapM fun p=>(zg5 P t p.1).bind fun fd=>(opdOf P c fd.type p.2).map fun y=>(fd.offset,P.cellsOf fd.type,y)).map fun ps=>.build z.cells ps else none
 |.buildSlice t len parts=>(zdg P t).bind fun e=>
   if parts.toList.map (·.1)=L'1 len/\len*P.cellsOf e<=2^24/\(z1i6 P e).isSome then(parts.toList.mapM fun p=>opdOf P c e p.2).map fun ps=>(if mf.l&&!flat P e then .bsl e (P.cellsOf e) ps else .bslice q e (flat P e) (P.cellsOf e) ps)else none
 |.call cl=>match cl.callee with
  |.value f=>((cl.args.toList.zip cl.argTypes.toList).mapM fun p=>opdOf P c p.2 p.1).bind fun args=>if cl.args.size=cl.argTypes.size then(match f with
   |.func f=>some (if mf.m f then .callm f args else .call q f args)
   |f=>(x f).map fun f=>.callv q f args)else none
  |.builtin .len=>match cl.args.toList,cl.argTypes.toList with
   |[a],[t]=>match P.underlying t with
    |some .string=>(x a).map (.len true)
    |some (.slice _)=>(opdOf P c t a).map (.len false)
    |_=>none
   |_,_=>none
  |.builtin .append=>match cl.args.toList,cl.argTypes.toList with
   |[a,b],[t,t']=>if t=t' then(zdg P t).bind fun e=>(z1i6 P e).bind fun z=>(opdOf P c t a).bind fun a=>(opdOf P c t b).bind fun b=>
     if okE (flat P e) (P.cellsOf e) z&&decide (P.bytesOf e<=1024)then some (if mf.l&&!flat P e then .appl e (flat P e) (P.cellsOf e) a b else if mf.k&&flat P e then .apq e (P.cellsOf e) a b else .append e (flat P e) (P.cellsOf e) a b)else none else none
   |_,_=>none
  |.builtin .min=>match cl.args.toList with
   |[a,b]=>(x a).bind fun a=>(x b).map fun b=>.mnmx false a b
   |_=>none
  |.builtin .clear=>match cl.args.toList,cl.argTypes.toList with
   |[a],[t]=>(zdg P t).bind fun e=>(z1i6 P e).bind fun z=>(opdOf P c t a).map fun a=>.clr z a
   |_,_=>none
  |.builtin .copy=>match cl.args.toList,cl.argTypes.toList with
   |[a,b],[t,t']=>if t=t' then(zdg P t).bind fun e=>if (P.info? e).isSome then(opdOf P c t a).bind fun a=>(opdOf P c t b).map fun b=>.copy (P.cellsOf e) a b else none else none
   |_,_=>none
  |.builtin .max=>match cl.args.toList with
   |[a,b]=>(x a).bind fun a=>(x b).map fun b=>.mnmx true a b
   |_=>none
  |_=>none
 |_=>none
def isF:IOp->Bool
|.store ..|.append ..|.callm ..|.clr ..|.mkl ..|.nill ..|.bsl ..|.appl ..|.stl ..|.ldt ..|.ldf ..|.slq ..|.apq ..|.copy ..|.bad=>true
|.call q _ _|.callv q _ _|.bslice q ..=>!q
|_=>false
def isQ:IOp->Bool
|.load ..|.slice ..|.strb _=>true
|.call q _ _|.callv q _ _=>q
|_=>false
def rsOf(o:IOper):List Nat:=((opds o.op).filterMap fun|.r j=>some j|_=>none)++(match o.guard with| some (j,_)=>[j]|none=>[])
def vsOf(o:IOper):List Nat:=(opds o.op).filterMap fun|.v j=>some j|_=>none
def loud(k:Bool):Op->Bool
 |.store ..|.buildSlice ..|.convert ..=>true
 |.load ..=>k
 |.call c=>match c.callee with
  |.builtin .len|.builtin .min|.builtin .max=>false
  |_=>true
 |_=>false
def cmp(b:Array Nat)(i j:Nat):Bool:=i==j||(b.getD i 0).testBit j||(b.getD j 0).testBit i
def asap(b:Array Nat)(F:Nat->Bool)(n:Nat):Nat->List Nat->List Nat
 |0,l=>l
 |d+1,l=>
  let free:=fun k=>!l.contains k&&(L'1 n).all fun j=>!(b.getD k 0).testBit j||l.contains j
  match (L'1 n).find? fun k=>!F k&&free k with
  |some k=>asap b F n d (l++[k])
  |none=>match (L'1 n).find? fun k=>free k with
   |some k=>asap b F n d (l++[k])
   |none=>l
def zzi(P:Program)(mf:Md)(q:Bool)(c:Ctx)(ord:List Nat)(o:Oper):IOper:=
{dst:=o.dst.bind c.slots.idxOf?,op:=(opOf P mf q c o).getD .bad,guard:=o.guard.map fun g=>(ord.idxOf g.1,g.2)}
def z13d(kk:Bool)(b:Array Nat)(ops:List Oper)(k:Nat):Bool:=!((L'1 ops.length).all fun j=>match ops[j]? with
|some o=>!loud kk o.op||cmp b k j
|none=>true)
def znr:IOp->Bool
|.load ..|.slice ..=>true
|_=>false
def zzl(P:Program)(mf:Md)(dr:Bool)(slots:List Nat)(ops:Array Oper):List Nat×List IOper×List (Nat×Nat):=
let l:=ops.toList
let b:=if dr then Region.before ops else #[]
let ord0:=if dr then asap b (fun k=>match l[k]? with
 |some o=>isF ((opOf P mf (z13d mf.k b l k) ⟨slots,l.map (·.dst)⟩ o).getD .bad)
 |none=>false) l.length l.length []else L'1 l.length
let c:Ctx:=⟨slots,ord0.map fun k=>(l[k]?).bind (·.dst)⟩
let io:=ord0.filterMap fun k=>(l[k]?).map fun o=>zzi P mf (dr&&z13d mf.k b l k) c ord0 o
let R:=L'1 io.length
(ord0,io,if dr then R.flatMap fun p=>if isF (io.getD p default).op then R.filterMap fun y=>if znr (io.getD y default).op&&!cmp b (ord0.getD p 0) (ord0.getD y 0)then some (p,y)else none else[]else[])
def zvq(l:List Nat):Bool:=match l with
|[]=>true
|x::xs=>!xs.contains x&&zvq xs
def regOk(dr:Bool)(ntmps:Nat)(ops:Array Oper)(ord:List Nat)(io:List IOper)(chk:List (Nat×Nat)):Bool:=
let l:=ops.toList
let n:=l.length
let b:=if dr then Region.before ops else #[]
let R:=L'1 n
let at_:=fun p=>ord.getD p 0
let F:=fun p=>isF (io.getD p default).op
let Q:=fun p=>isQ (io.getD p default).op
zvq (l.filterMap (·.dst))&&(l.filterMap (·.dst)).all (fun t=>decide (t<ntmps)) &&
io.all (fun o=>match o.guard with| some (j,_)=>((l[at_ j]?).bind (·.dst)).isSome|none=>true) &&
(!dr||(zvq ord&&ord.length==n&&ord.all (fun k=>decide (k<n))&&R.all (fun k=>ord.contains k)&&io.length==n &&
 R.all (fun k=>R.all fun j=>!(b.getD k 0).testBit j||(match l[k]? with| some o=>o.after.toList.any fun e=>Region.binds .any e&&(e.on==j||(b.getD e.on 0).testBit j)|none=>false)) &&
 R.all (fun y=>(rsOf (io.getD y default)).all fun x=>(b.getD (at_ y) 0).testBit (at_ x)) &&
 R.all (fun x=>R.all fun y=>!(decide (x<=y))||!(b.getD (at_ x) 0).testBit (at_ y)) &&
 R.all (fun k=>match l[k]? with| some o=>o.after.toList.all fun e=>!Region.binds .any e||((b.getD k 0).testBit e.on&&decide (e.on<n))|none=>false) &&
 R.all (fun p=>!F p||R.all fun y=>!(decide (p<y))||F y||R.any fun x=>decide (p<=x)&&decide (x<y)&&(b.getD (at_ y) 0).testBit (at_ x)) &&
 R.all (fun p=>!F p||R.all fun y=>!(F y||Q y)||cmp b (at_ p) (at_ y)||(znr (io.getD y default).op&&chk.contains (p,y))) &&
 R.all (fun p=>match (io.getD p default).dst with
 |some i=>R.all fun y=>!(vsOf (io.getD y default)).contains i||cmp b (at_ p) (at_ y)
 |none=>true)))
/-! ### Which slots the frame has; what a loop keeps -/
def z143(o:Oper):List Nat:=(o.op.operands.toList.filterMap fun|.tmp t=>some t|_=>none)
def zrs(after:List Nat):List Oper->List Nat
|[]=>after
|o::os=>let l:=zrs after os;(l.filter fun t=>some t !=o.dst)++z143 o
def uniq(l:List Nat):List Nat:=l.foldl (fun a x=>if a.contains x then a else a++[x]) []
def zrr(f:List Nat->List Nat):Nat->List Nat->List Nat
|0,l=>l
|n+1,l=>let l':=uniq (l++f l);if l'.length=l.length then l else zrr f n l'
def zrq(res:List Nat):Code->List Nat->List (Nat×List Nat)->List Nat
|.skip,a,_=>a
|.region _ ops _,a,_=>uniq (zrs a ops.toList)
|.seq x y,a,e=>zrq res x (zrq res y a e) e
|.cond c x y,a,e=>uniq ((match c with| .tmp t=>[t]|_=>[])++zrq res x a e++zrq res y a e)
|.block id b,a,e=>zrq res b a ((id,a)::e)
|.loop b,_,e=>zrr (fun l=>zrq res b l e) 60 []
|.exit id,_,e=>((e.find? fun p=>p.1==id).map (·.2)).getD []
|.scope b,a,e=>zrq res b a e
|.ret,_,_=>res
|_,a,_=>a
def uses:Code->List (List Nat×List Nat)
|.region _ ops _=>[(ops.toList.filterMap (·.dst),ops.toList.flatMap z143)]
|.seq x y=>uses x++uses y
|.cond c x y=>([],match c with| .tmp t=>[t]|_=>[])::(uses x++uses y)
|.block _ b=>uses b
|.loop b=>uses b
|.scope b=>uses b
|_=>[]
def zns(us:List (List Nat×List Nat))(s:Nat):Bool:=
(us.filter fun u=>u.1.contains s||u.2.contains s).length==1&&(us.flatMap (·.1)).count s==1
def resOf(P:Program)(slots:List Nat):ResultVar->Option IRes
|.tmp t=>(slots.idxOf? t).map .v
|.cell a t=>if (P.underlying t).isSome then(slots.idxOf? a).map fun i=>.cell (aggT P t) (P.cellsOf t) i else none
def zbb(P:Program)(mf:Md)(N:Nat)(slots res:List Nat):Code->List Nat->List (Nat×List Nat)->Option ICode
 |.skip,_,_=>some .skip
 |.region _ ops dr,_,_=>(let x:=zzl P mf dr slots ops;if regOk dr N ops x.1 x.2.1 x.2.2 then some (if mf.l&&!dr&&(zoq x.2.1).isSome then .kreg x.2.1 else .region dr x.2.2 x.2.1)else none)
 |.seq x y,a,e=>(zbb P mf N slots res x (zrq res y a e) e).bind fun x=>(zbb P mf N slots res y a e).map fun y=>.seq x y
 |.cond c x y,a,e=>(opdOf P ⟨slots,[]⟩ 0 c).bind fun c=>(zbb P mf N slots res x a e).bind fun x=>(zbb P mf N slots res y a e).map fun y=>.cond c x y
 |.block id b,a,e=>(zbb P mf N slots res b a ((id,a)::e)).map (.block id)
 |.loop b,a,e=>
  let l:=zrr (fun l=>zrq res b l e) 60 []
  (zbb P mf N slots res b l e).map (.loop (slots.map fun s=>l.contains s))
 |.exit id,_,_=>some (.exit id)
 |.scope b,a,e=>(zbb P mf N slots res b a e).map .scope
 |.ret,_,_=>some .ret
 |_,_,_=>none
def zbq (P : Program) (mf : Md) (fn : Func) : Option IFun :=
  fn.body.bind fun body =>
    let us := uses body
    let rs := fn.results.toList.map fun | .tmp t => t | .cell a _ => a
    let np := fn.params.size + fn.nfree
    let slots := (L'1 fn.ntmps).filter fun s => (us.any fun u => u.1.contains s || u.2.contains s) && (s < np || rs.contains s || !zns us s)
    let slots := uniq (slots ++ rs)
    if zvq slots && !(fn.name == "runtime.NumGoroutine") then
      (zbb P mf fn.ntmps slots rs body [] []).bind fun b => (fn.results.toList.mapM (resOf P slots)).map fun r => { slots, body := b, results := r }
    else none
end Go.Proofs.YtbaclnecajkknaaGreat.Pi

