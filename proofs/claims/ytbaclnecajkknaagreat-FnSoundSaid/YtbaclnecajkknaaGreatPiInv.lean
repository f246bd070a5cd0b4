/- Pi: a call's state: its blocks, its frame; how it may change. -/
import Derived.Test.YtbaclnecajkknaaGreatPiRel
open Nat renaming le_trans->L'g,lt_of_lt_of_le->L'i
open List renaming all_eq_true->L'h,mem_append->L'j
namespace Go.Proofs.YtbaclnecajkknaaGreat.Pi
open Go
set_option linter.all false

/-! ### What keeps values -/
structure Le(G:Gh)(w:World)(G':Gh)(w':World):Prop where
S:∀c,G.S c->G'.S c
T:∀c,G.T c->G'.T c
ST:∀c,G.S c->G.T c
same:∀c,G.T c->w'.heap[c]?=w.heap[c]?
ids:∀(b:Nat)(p:Nat×Nat),G.ids b=some p->G'.ids b=some p
theorem Le.I{G G':Gh}{w w':World}(h:Le G w G' w'):∀c,G.S c->G'.S c/\w'.heap[c]?=w.heap[c]?:=fun c hc=>⟨h.S c hc,h.same c (h.ST c hc)⟩
theorem Rp.of_imm{G:Gh}{w:World}{x:PV}{v:Value}(hx:x.imm1=true):Rp G w x v↔RpI G.S w x v:=by
 cases x<;>simp[PV.imm1]at hx<;>simp[Rp,RpI]
theorem z154(f:Nat->Nat):∀(xs:List PV),(∀x∈xs,x.one=true)->∀y∈renL f xs,y.one=true
 |[],_,_,hy=>by simp[Pi.renL]at hy
 |x::xs,h,y,hy=>by
  simp only[Pi.renL,List.mem_cons]at hy
  rcases hy with rfl| hy
  ·have:=h x (by simp)
   cases x<;>simp[PV.one]at this<;>simp[PV.ren,PV.one]
  ·exact z154 f xs (fun x hx=>h x (by simp[hx])) y hy
theorem z15f(f:Nat->Nat)(x:PV)(h:x.cells.all PV.one=true):(x.ren f).cells.all PV.one=true:=by
 cases x
 case agg cs=>
  rw[L'h]at h ⊢
  exact z154 f cs h
 all_goals simp[PV.cells,PV.one]at h<;>simp[PV.ren,PV.cells,PV.one]
mutual
theorem Rp.ren{G G':Gh}{w w':World}(f:Nat->Nat)(hS:∀c,G.S c->G'.S c/\w'.heap[c]?=w.heap[c]?)(hT:∀c,G.T c->G'.T c/\w'.heap[c]?=w.heap[c]?) :
  ∀(x:PV)(v:Value),(∀b∈x.refs,∀p,G.ids b=some p->G'.ids (f b)=some p)->Rp G w x v->Rp G' w' (x.ren f) v
 |.any,_,_,_=>trivial
 |.undef,_,_,h|.sle ..,_,_,h|.int _ _,_,_,h|.bool _,_,_,h|.str _,_,_,h|.nil _ _,_,_,h|.nilp,_,_,h|.nilf,_,_,h=>h
 |.sl fl sz es,v,_,h=>by
  simp only[Rp,PV.ren]at h ⊢
  exact RpI.mono hS _ _ h
 |.ref b sz off len,v,hi,h=>by
  obtain⟨c,cap,cp,h1,h2⟩:=h
  exact⟨c,cap,cp,hi b (by simp[PV.refs]) _ h1,h2⟩
 |.ptr b off,v,hi,h=>by
  obtain⟨c,cp,h1,h2⟩:=h
  exact⟨c,cp,hi b (by simp[PV.refs]) _ h1,h2⟩
 |.ep b sz i off,v,hi,h=>by
  obtain⟨c,cp,h1,h2⟩:=h
  exact⟨c,cp,hi b (by simp[PV.refs]) _ h1,h2⟩
 |.qref b sz off len,v,hi,h=>by
  obtain⟨c,o,n,cap,h1,h2⟩:=h
  exact⟨c,o,n,cap,hi b (by simp[PV.refs]) _ h1,h2⟩
 |.qep b sz i off,v,hi,h=>by
  obtain⟨c,o,n,h1,h2⟩:=h
  exact⟨c,o,n,hi b (by simp[PV.refs]) _ h1,h2⟩
 |.pv x off,v,hi,h=>by
  obtain⟨c,o,vx,h1,h2,h3,h4,h5⟩:=h
  exact⟨c,o,vx,h1,(hT c h2).1,Rp.ren f hS hT x vx (by simpa [PV.refs]using hi) h3,z15f f x h4,h5.mono (hT c h2).2⟩
 |.clo g caps,v,hi,h=>by
  obtain⟨vs,h1,h2⟩:=h
  exact⟨vs,h1,RpL.ren f hS hT caps vs (by simpa [PV.refs]using hi) h2⟩
 |.agg cs,v,hi,h=>by
  obtain⟨vs,h1,h2⟩:=h
  exact⟨vs,h1,RpL.ren f hS hT cs vs (by simpa [PV.refs]using hi) h2⟩
 |.tup cs,v,hi,h=>by
  obtain⟨vs,h1,h2⟩:=h
  exact⟨vs,h1,RpL.ren f hS hT cs vs (by simpa [PV.refs]using hi) h2⟩
 |.un ..,_,_,h=>h.elim
 |.unn ..,_,_,h=>h.elim
termination_by structural x => x
theorem RpL.ren{G G':Gh}{w w':World}(f:Nat->Nat)(hS:∀c,G.S c->G'.S c/\w'.heap[c]?=w.heap[c]?)(hT:∀c,G.T c->G'.T c/\w'.heap[c]?=w.heap[c]?) :
  ∀(xs:List PV)(vs:List Value),(∀b∈refsL xs,∀p,G.ids b=some p->G'.ids (f b)=some p)->RpL G w xs vs->RpL G' w' (renL f xs) vs
 |[],_,_,h=>h
 |x::xs,vs,hi,h=>by
  obtain⟨v,rest,h1,h2,h3⟩:=h
  simp only[refsL,L'j]at hi
  exact⟨v,rest,h1,Rp.ren f hS hT x v (fun b hb=>hi b (.inl hb)) h2,RpL.ren f hS hT xs rest (fun b hb=>hi b (.inr hb)) h3⟩
termination_by structural x => x
end

mutual
theorem PV.ren_id:∀(x:PV),x.ren (fun b=>b)=x
|.any|.undef|.int _ _|.bool _|.str _|.nil _ _|.nilp|.nilf|.sl ..|.ref ..|.ptr ..|.ep ..|.un ..|.unn ..|.sle ..|.qref ..|.qep ..=>rfl
|.pv x off=>by simp[PV.ren,PV.ren_id x]
|.clo g caps=>by simp[PV.ren,z150 caps]
|.agg cs=>by simp[PV.ren,z150 cs]
|.tup cs=>by simp[PV.ren,z150 cs]
termination_by structural x => x
theorem z150:∀(xs:List PV),renL (fun b=>b) xs=xs
|[]=>rfl
|x::xs=>by simp[renL,PV.ren_id x,z150 xs]
termination_by structural x => x
end

mutual
theorem Rp.named{G:Gh}{w:World}:∀(x:PV)(v:Value),Rp G w x v->∀b∈x.refs,∃p,G.ids b=some p
 |.any,_,_,_,hb|.undef,_,_,_,hb|.int _ _,_,_,_,hb|.bool _,_,_,_,hb|.str _,_,_,_,hb|.nil _ _,_,_,_,hb|.nilp,_,_,_,hb|.nilf,_,_,_,hb
 |.sl ..,_,_,_,hb|.sle ..,_,_,_,hb|.un ..,_,_,_,hb|.unn ..,_,_,_,hb=>by simp[PV.refs]at hb
 |.ref _ sz off len,v,h,b,hb=>by
  obtain⟨c,cap,cp,h1,h2⟩:=h
  simp[PV.refs]at hb;subst hb;exact⟨_,h1⟩
 |.ptr _ off,v,h,b,hb=>by
  obtain⟨c,cp,h1,h2⟩:=h
  simp[PV.refs]at hb;subst hb;exact⟨_,h1⟩
 |.ep _ sz i off,v,h,b,hb=>by
  obtain⟨c,cp,h1,h2⟩:=h
  simp[PV.refs]at hb;subst hb;exact⟨_,h1⟩
 |.qref _ sz off len,v,h,b,hb=>by
  obtain⟨c,o,n,cap,h1,h2⟩:=h
  simp[PV.refs]at hb;subst hb;exact⟨_,h1⟩
 |.qep _ sz i off,v,h,b,hb=>by
  obtain⟨c,o,n,h1,h2⟩:=h
  simp[PV.refs]at hb;subst hb;exact⟨_,h1⟩
 |.pv x off,v,h,b,hb=>by
  obtain⟨c,o,vx,h1,h2,h3,h4,h5⟩:=h
  exact Rp.named x vx h3 b (by simpa [PV.refs]using hb)
 |.clo g caps,v,h,b,hb=>by
  obtain⟨vs,h1,h2⟩:=h
  exact RpL.named caps vs h2 b (by simpa [PV.refs]using hb)
 |.agg cs,v,h,b,hb=>by
  obtain⟨vs,h1,h2⟩:=h
  exact RpL.named cs vs h2 b (by simpa [PV.refs]using hb)
 |.tup cs,v,h,b,hb=>by
  obtain⟨vs,h1,h2⟩:=h
  exact RpL.named cs vs h2 b (by simpa [PV.refs]using hb)
termination_by structural x => x
theorem RpL.named{G:Gh}{w:World}:∀(xs:List PV)(vs:List Value),RpL G w xs vs->∀b∈refsL xs,∃p,G.ids b=some p
 |[],_,_,b,hb=>by simp[refsL]at hb
 |x::xs,vs,h,b,hb=>by
  obtain⟨v,rest,h1,h2,h3⟩:=h
  simp only[refsL,L'j]at hb
  rcases hb with hb|hb
  ·exact Rp.named x v h2 b hb
  ·exact RpL.named xs rest h3 b hb
termination_by structural x => x
end

section
variable {G G':Gh}{w w':World}
theorem Rp.mono(hl:Le G w G' w'){x:PV}{v:Value}(h:Rp G w x v):Rp G' w' x v:=by
 have:=Rp.ren (fun b=>b) hl.I (fun c hc=>⟨hl.T c hc,hl.same c hc⟩) x v (fun b _=>hl.ids b) h
 rwa [PV.ren_id]at this
theorem RpL.mono(hl:Le G w G' w'){xs:List PV}{vs:List Value}(h:RpL G w xs vs):RpL G' w' xs vs:=by
 have:=RpL.ren (fun b=>b) hl.I (fun c hc=>⟨hl.T c hc,hl.same c hc⟩) xs vs (fun b _=>hl.ids b) h
 rwa [z150]at this
theorem RpL.length:∀{xs:List PV}{vs:List Value},RpL G w xs vs->vs.length=xs.length
 |[],_,h=>by simp[RpL]at h;simp[h]
 |x::xs,vs,h=>by
  obtain⟨v,rest,rfl,h2,h3⟩:=h
  simp[RpL.length h3]
theorem RpL.get:∀{xs:List PV}{vs:List Value}(i:Nat){x:PV},RpL G w xs vs->xs[i]?=some x->∃v,vs[i]?=some v/\Rp G w x v
 |[],_,_,_,_,hx=>by simp at hx
 |y::ys,vs,0,x,h,hx=>by
  obtain⟨v,rest,rfl,h2,h3⟩:=h
  simp at hx;subst hx;exact⟨v,by simp,h2⟩
 |y::ys,vs,i+1,x,h,hx=>by
  obtain⟨v,rest,rfl,h2,h3⟩:=h
  simpa using RpL.get i h3 (by simpa using hx)
theorem RpL.append:∀{xs ys:List PV} {vs us:List Value},RpL G w xs vs->RpL G w ys us->RpL G w (xs++ys) (vs++us)
 |[],_,_,_,h,h'=>by simp[RpL]at h;subst h;simpa using h'
 |x::xs,ys,vs,us,h,h'=>by
  obtain⟨v,rest,rfl,h2,h3⟩:=h
  exact⟨v,rest++us,by simp,h2,RpL.append h3 h'⟩
theorem RpL.take:∀{xs:List PV} {vs:List Value} (n:Nat),RpL G w xs vs->RpL G w (xs.take n) (vs.take n)
 |[],_,n,h=>by simp[RpL]at h;subst h;simp[RpL]
 |x::xs,vs,0,h=>by simp[RpL]
 |x::xs,vs,n+1,h=>by
  obtain⟨v,rest,rfl,h2,h3⟩:=h
  exact⟨v,rest.take n,by simp,h2,RpL.take n h3⟩
theorem RpL.drop:∀{xs:List PV} {vs:List Value} (n:Nat),RpL G w xs vs->RpL G w (xs.drop n) (vs.drop n)
 |[],_,n,h=>by simp[RpL]at h;subst h;simp[RpL]
 |x::xs,vs,0,h=>by simpa using h
 |x::xs,vs,n+1,h=>by
  obtain⟨v,rest,rfl,h2,h3⟩:=h
  simpa using RpL.drop n h3
theorem RpL.splice{cs ys:List PV}{vs us:List Value}(off:Nat)(h:RpL G w cs vs)(h':RpL G w ys us) :
  RpL G w (splice cs off ys) (vs.take off++us++vs.drop (off+us.length)):=by
 rw[RpL.length h']
 exact((h.take off).append h').append (h.drop _)
theorem Rp.one{x:PV}{v:Value}(h:Rp G w x v)(hx:x.one=true):v.oneCell'=true/\v.cells=#[v]/\x.cells=[x]:=by
 cases x<;>simp[PV.one]at hx
 case int=>simp only[Rp]at h;subst h;simp[Value.oneCell',Value.cells,PV.cells]
 case bool=>simp only[Rp]at h;subst h;simp[Value.oneCell',Value.cells,PV.cells]
 case str=>simp only[Rp]at h;subst h;simp[Value.oneCell',Value.cells,PV.cells]
 case nil=>simp only[Rp]at h;subst h;simp[Value.oneCell',Value.cells,PV.cells]
 case nilp=>simp only[Rp]at h;subst h;simp[Value.oneCell',Value.cells,PV.cells]
 case nilf=>simp only[Rp]at h;subst h;simp[Value.oneCell',Value.cells,PV.cells]
 case sl=>simp only[Rp]at h;exact RpI.one h rfl
 case ref=>obtain⟨c,cap,cp,h1,h2,h3,A,rfl,h4⟩:=h;simp[Value.oneCell',Value.cells,PV.cells]
 case ptr=>obtain⟨c,cp,h1,rfl⟩:=h;simp[Value.oneCell',Value.cells,PV.cells]
 case ep=>obtain⟨c,cp,h1,rfl⟩:=h;simp[Value.oneCell',Value.cells,PV.cells]
 case qref=>obtain⟨c,o,n,cap,h1,h2,h3,A,rfl,h4⟩:=h;simp[Value.oneCell',Value.cells,PV.cells]
 case qep=>obtain⟨c,o,n,h1,rfl⟩:=h;simp[Value.oneCell',Value.cells,PV.cells]
 case pv=>obtain⟨c,cp,vx,rfl,h1⟩:=h;simp[Value.oneCell',Value.cells,PV.cells]
 case clo=>obtain⟨vs,rfl,h1⟩:=h;simp[Value.oneCell',Value.cells,PV.cells]
theorem RpL.of_imm:∀{xs:List PV}{vs:List Value},(∀x∈xs,x.imm1=true)->(RpL G w xs vs↔RpIL G.S w xs vs)
 |[],vs,_=>by simp[RpL,RpIL]
 |x::xs,vs,h=>by
  simp only[RpL,RpIL,Rp.of_imm (h x (by simp)),RpL.of_imm (fun y hy=>h y (List.mem_cons_of_mem _ hy))]
theorem zw4{fl:Bool}{sz:Nat}{x:PV}(h:okE fl sz x=true):∀c∈x.cells,c.imm1=true:=by
 intro c hc
 simp only[okE,Bool.and_eq_true,L'h]at h
 exact(h.2 c hc).1
theorem RpI.up{fl:Bool}{sz:Nat}{x:PV}{v:Value}(ho:okE fl sz x=true):Rp G w x v↔RpI G.S w x v:=by
 have hall:=zw4 ho
 cases x
 case agg cs=>simp only[Rp,RpI,RpL.of_imm (G:=G) (w:=w) (xs:=cs) (by simpa [PV.cells]using hall)]
 all_goals exact Rp.of_imm (by simpa [PV.cells]using hall)
theorem Rp.cells{x:PV}{v:Value}(h:Rp G w x v)(hx:x.cells.all PV.one=true):RpL G w x.cells v.cells.toList:=by
 cases x
 case agg cs=>obtain⟨vs,rfl,h⟩:=h;simpa [Value.cells,PV.cells]using h
 all_goals
  have:=Rp.one h (by simpa [PV.cells]using hx)
  rw[this.2.1,this.2.2];exact⟨v,[],rfl,h,rfl⟩
end

theorem zlj{x:PV}(h:x.imm1=true):x.one=true:=by cases x<;>simp[PV.imm1]at h<;>rfl
theorem zw9{fl:Bool}{sz:Nat}{x:PV}(h:okE fl sz x=true):x.cells.all PV.one=true:=by
 rw[L'h];exact fun c hc=>zlj (zw4 h c hc)
/-! ### Blocks -/
def BlkOk(G:Gh)(w:World)(c cp:Nat):Blk->Prop
|.dead=>True
|.row _ fl sz es=>(es=[]/\cp=0)\/(es≠[]/\∃tt cs vs,w.heap[c]?=some (.cells cs tt (0,0))/\cs.size=cp*sz/\es.length<=cp/\RpEs G.S w fl sz es vs/\cs.toList.take (es.length*sz)=vs)
|.fro fl sz es=>es=[]\/(G.S c/\es.length<=cp/\∃vs,RpEs G.S w fl sz es vs/\At w c 0 vs)
|.box t cells=>∃cs,w.heap[c]?=some (.cells cs t (0,0))/\RpL G w cells cs.toList/\zw0 cells=true
|.lin t sz es=>(es=[]/\cp=0)\/(es≠[]/\∃cs vs f,w.heap[c]?=some (.cells cs t (0,0))/\cs.size=cp*sz/\es.length<=cp/\(∀e∈es,okE false sz e=true)/\RpD w (es.flatMap PV.cells) vs f/\cs.toList.take (es.length*sz)=vs/\f.Nodup/\∀c'∈f,G.X c'=some c)
|.hol t sz es i off=>i<es.length/\off<sz/\∃cs v0 vs f,w.heap[c]?=some (.cells cs t (0,0))/\cs.size=cp*sz/\es.length<=cp/\(∀e∈es,okE false sz e=true)/\RpD w (es.flatMap PV.cells) vs f/\(cs.toList.set (i*sz+off) v0).take (es.length*sz)=vs/\f.Nodup/\∀c'∈f,G.X c'=some c
|.que t sz es=>es≠[]/\∃o n tt cs vs,cp=enc o n/\w.heap[c]?=some (.cells cs tt (0,0))/\cs.size=(o+n)*sz/\es.length<=n/\RpEs G.S w true sz es vs/\(cs.toList.drop (o*sz)).take (es.length*sz)=vs
def Blk.own:Blk->Bool
|.row _ _ _ es=>!es.isEmpty
|.box ..=>true
|.lin _ _ es=>!es.isEmpty
|.hol ..=>true
|.que ..=>true
|_=>false
theorem rowOk{G:Gh}{w:World}{c cp:Nat}{t:TypeId}{fl:Bool}{sz:Nat}{es:List PV}(h0:es=[]->cp=0)
  (h:∃cs vs,w.heap[c]?=some (.cells cs t (0,0))/\cs.size=cp*sz/\es.length<=cp/\RpEs G.S w fl sz es vs/\cs.toList.take (es.length*sz)=vs):BlkOk G w c cp (.row t fl sz es):=by
 by_cases he:es=[]
 ·exact .inl ⟨he,h0 he⟩
 ·exact .inr ⟨he,t,h⟩
theorem z176{G:Gh}{w:World}{c cp:Nat}{t:TypeId}{fl:Bool}{sz:Nat}{es:List PV}(h:BlkOk G w c cp (.row t fl sz es))(h0:es≠[]) :
  ∃tt cs vs,w.heap[c]?=some (.cells cs tt (0,0))/\cs.size=cp*sz/\es.length<=cp/\RpEs G.S w fl sz es vs/\cs.toList.take (es.length*sz)=vs:=by
 rcases h with⟨h,_⟩|⟨_,h⟩
 ·exact(h0 h).elim
 ·exact h
theorem z177{G:Gh}{w:World}{c cp:Nat}{t:TypeId}{fl:Bool}{sz:Nat}{es:List PV}(h:BlkOk G w c cp (.row t fl sz es)):es.length<=cp:=by
 rcases h with⟨h,_⟩|⟨_,_,_,_,_,_,h,_⟩
 ·simp[h]
 ·exact h
theorem zi1{G:Gh}{w:World}{c cp:Nat}{fl:Bool}{sz:Nat}{es:List PV}(h:BlkOk G w c cp (.fro fl sz es))(h0:es≠[]):G.S c/\es.length<=cp/\∃vs,RpEs G.S w fl sz es vs/\At w c 0 vs:=h.resolve_left h0
theorem zi2{G:Gh}{w:World}{c cp:Nat}{fl:Bool}{sz:Nat}{es:List PV}(h:BlkOk G w c cp (.fro fl sz es)):es.length<=cp:=by
 rcases h with h|⟨_,h,_⟩
 ·simp[h]
 ·exact h
theorem capz{A:Option Addr}{a:Addr}{cap cp off:Nat}(h:cp=0\/A=some a)(h2:off+cap=cp):A=none->cap=0:=by
 intro e
 rcases h with h|h
 ·omega
 ·rw[e]at h;cases h
theorem z101{t:TypeId}{fl:Bool}{sz:Nat}{es:List PV}(h:es≠[]):(Blk.row t fl sz es).own=true:=by
 cases es
 ·exact(h rfl).elim
 ·rfl
theorem z17f{t:TypeId}{fl:Bool}{sz:Nat}{es:List PV}(h:(Blk.row t fl sz es).own=true):es≠[]:=by
 rintro rfl;simp[Blk.own]at h
theorem zrl{t:TypeId}{sz:Nat}{es:List PV}(h:(Blk.lin t sz es).own=true):es≠[]:=by
 rintro rfl;simp[Blk.own]at h
theorem z100{t:TypeId}{sz:Nat}{es:List PV}(h:es≠[]):(Blk.lin t sz es).own=true:=by
 cases es
 ·exact(h rfl).elim
 ·rfl
def Top(G:Gh)(mem:List Blk)(c:Nat):Prop:=∃(b:Nat)(k:Blk)(cp:Nat),mem[b]?=some k/\k.own=true/\G.ids b=some (c,cp)
def Own(G:Gh)(mem:List Blk)(c:Nat):Prop:=Top G mem c\/∃d,G.X c=some d
structure Good(G:Gh)(w:World)(mem:List Blk):Prop where
bnd:∀b p,G.ids b=some p->b<mem.length
blk:∀(b:Nat)(k:Blk)(c cp:Nat),mem[b]?=some k->G.ids b=some (c,cp)->BlkOk G w c cp k
ST:∀c,G.S c->G.T c
lt:∀c,G.T c->c<w.heap.size
apart:∀c,Own G mem c->¬G.T c
inj:∀(b b':Nat)(k k':Blk)(c cp cp':Nat),mem[b]?=some k->mem[b']?=some k'->k.own=true->k'.own=true->G.ids b=some (c,cp)->G.ids b'=some (c,cp')->b=b'
xlt:∀c d,G.X c=some d->c<w.heap.size
xap:∀c d,G.X c=some d->¬Top G mem c
theorem BlkOk.lt{G:Gh}{w:World}{c cp:Nat}{k:Blk}(h:BlkOk G w c cp k)(ho:k.own=true):c<w.heap.size:=by
 cases k
 case dead=>cases ho
 case fro=>cases ho
 ·obtain⟨tt,cs,vs,h1,_⟩:=z176 h (z17f ho);exact(Array.getElem?_eq_some_iff.1 h1).1
 ·obtain⟨cs,h1,_⟩:=h;exact(Array.getElem?_eq_some_iff.1 h1).1
 ·obtain⟨_,cs,vs,f,h1,_⟩:=h.resolve_left fun h=>zrl ho h.1;exact(Array.getElem?_eq_some_iff.1 h1).1
 ·obtain⟨_,_,cs,v0,vs,f,h1,_⟩:=h;exact(Array.getElem?_eq_some_iff.1 h1).1
 ·obtain⟨_,o,n,tt,cs,vs,_,h1,_⟩:=h;exact(Array.getElem?_eq_some_iff.1 h1).1
theorem Good.ownLt{G:Gh}{w:World}{mem:List Blk}(h:Good G w mem){c:Nat}(hc:Own G mem c):c<w.heap.size:=by
 rcases hc with⟨b,k,cp,h1,h2,h3⟩|⟨d,hd⟩
 ·exact(h.blk b k c cp h1 h3).lt h2
 ·exact h.xlt c d hd
structure Wx(G:Gh)(w:World)(mem:List Blk)(G':Gh)(w':World)(mem':List Blk):Prop where
os:w'.os=w.os
tape:w'.tape=w.tape
output:w'.output=w.output
size:w.heap.size<=w'.heap.size
same:∀c,c<w.heap.size->¬Own G mem c->w'.heap[c]?=w.heap[c]?
own:∀c,Own G' mem' c->Own G mem c\/w.heap.size<=c
S:∀c,G.S c->G'.S c
T:∀c,G.T c->G'.T c
newT:∀c,G'.T c->G.T c\/Own G mem c\/w.heap.size<=c
newS:∀c,G'.S c->G.S c\/Own G mem c\/w.heap.size<=c
theorem Wx.refl(G:Gh)(w:World)(mem:List Blk):Wx G w mem G w mem:=
⟨rfl,rfl,rfl,Nat.le_refl _,fun _ _ _=>rfl,fun _ h=>.inl h,fun _ h=>h,fun _ h=>h,fun _ h=>.inl h,fun _ h=>.inl h⟩
theorem Wx.trans{G G₁ G₂:Gh}{w w₁ w₂:World}{m m₁ m₂:List Blk}(h:Wx G w m G₁ w₁ m₁)(h':Wx G₁ w₁ m₁ G₂ w₂ m₂):Wx G w m G₂ w₂ m₂:=by
 refine⟨h'.os.trans h.os,h'.tape.trans h.tape,h'.output.trans h.output,L'g h.size h'.size,?_,?_,fun c hc=>h'.S c (h.S c hc),fun c hc=>h'.T c (h.T c hc),?_,?_⟩
 ·intro c hc hn
  rw[h'.same c (L'i hc h.size) (fun ho=>by
   rcases h.own c ho with ho|ho
   ·exact hn ho
   ·omega),h.same c hc hn]
 ·intro c hc
  rcases h'.own c hc with hc|hc
  ·exact h.own c hc
  ·exact .inr (L'g h.size hc)
 ·intro c hc
  rcases h'.newT c hc with hc|hc|hc
  ·exact h.newT c hc
  ·rcases h.own c hc with hc|hc
   ·exact .inr (.inl hc)
   ·exact .inr (.inr hc)
  ·exact .inr (.inr (L'g h.size hc))
 ·intro c hc
  rcases h'.newS c hc with hc|hc|hc
  ·exact h.newS c hc
  ·rcases h.own c hc with hc|hc
   ·exact .inr (.inl hc)
   ·exact .inr (.inr hc)
  ·exact .inr (.inr (L'g h.size hc))
theorem Wx.keepT{G G':Gh}{w w':World}{m m':List Blk}(h:Wx G w m G' w' m')(hi:Good G w m):∀c,G.T c->w'.heap[c]?=w.heap[c]?:=
fun c hc=>h.same c (hi.lt c hc) (fun ho=>hi.apart c ho hc)
structure Ext(G:Gh)(w:World)(mem:List Blk)(G':Gh)(w':World)(mem':List Blk):Prop extends Wx G w mem G' w' mem' where
len:mem.length<=mem'.length
ids:∀b,b<mem.length->G'.ids b=G.ids b
un:∀b,b<mem.length->G.ids b=none->mem'[b]?=mem[b]?
theorem Ext.refl(G:Gh)(w:World)(mem:List Blk):Ext G w mem G w mem:=⟨.refl G w mem,Nat.le_refl _,fun _ _=>rfl,fun _ _ _=>rfl⟩
theorem Ext.trans{G G₁ G₂:Gh}{w w₁ w₂:World}{m m₁ m₂:List Blk}(h:Ext G w m G₁ w₁ m₁)(h':Ext G₁ w₁ m₁ G₂ w₂ m₂):Ext G w m G₂ w₂ m₂:=
⟨h.toWx.trans h'.toWx,L'g h.len h'.len,fun b hb=>(h'.ids b (L'i hb h.len)).trans (h.ids b hb),
 fun b hb hn=>(h'.un b (L'i hb h.len) ((h.ids b hb).trans hn)).trans (h.un b hb hn)⟩
theorem Ext.le{G G':Gh}{w w':World}{m m':List Blk}(h:Ext G w m G' w' m')(hi:Good G w m):Le G w G' w':=
⟨h.S,h.T,hi.ST,h.toWx.keepT hi,fun b p hp=>(h.ids b (hi.bnd b p hp)).trans hp⟩
theorem zr3{G:Gh}{w:World}{c cp:Nat}{t:TypeId}{sz:Nat}{es:List PV}(h:BlkOk G w c cp (.lin t sz es))(h0:es≠[]) :
  ∃cs vs f,w.heap[c]?=some (.cells cs t (0,0))/\cs.size=cp*sz/\es.length<=cp/\(∀e∈es,okE false sz e=true)/\RpD w (es.flatMap PV.cells) vs f/\cs.toList.take (es.length*sz)=vs/\f.Nodup/\∀c'∈f,G.X c'=some c:=by
 rcases h with⟨h,_⟩|⟨_,h⟩
 ·exact(h0 h).elim
 ·exact h
def Blk.isLin:Blk->Bool
|.lin ..=>true
|.hol ..=>true
|_=>false
theorem BlkOk.monoX{G G':Gh}{w w':World}(hl:Le G w G' w'){c cp:Nat}{k:Blk}(h:BlkOk G w c cp k)(hk:k.own=true->w'.heap[c]?=w.heap[c]?)(hX:k.isLin=true->k.own=true->∀c',G.X c'=some c->G'.X c'=some c/\w'.heap[c']?=w.heap[c']?):BlkOk G' w' c cp k:=by
 cases k
 case lin t sz es=>
  rcases h with h|⟨h0,cs,vs,f,h1,h2,h3,h4,h5,h6,h7,h8⟩
  ·exact .inl h
  ·exact .inr ⟨h0,cs,vs,f,(hk (z100 h0)).trans h1,h2,h3,h4,h5.mono fun c' hc'=>(hX rfl (z100 h0) c' (h8 c' hc')).2,h6,h7,fun c' hc'=>(hX rfl (z100 h0) c' (h8 c' hc')).1⟩
 case hol t sz es i off=>
  obtain⟨q1,q2,cs,v0,vs,f,h1,h2,h3,h4,h5,h6,h7,h8⟩:=h
  exact⟨q1,q2,cs,v0,vs,f,(hk rfl).trans h1,h2,h3,h4,h5.mono fun c' hc'=>(hX rfl rfl c' (h8 c' hc')).2,h6,h7,fun c' hc'=>(hX rfl rfl c' (h8 c' hc')).1⟩
 case que t sz es=>
  obtain⟨h0,o,n,tt,cs,vs,e,h1,h2,h3,h4,h5⟩:=h
  exact⟨h0,o,n,tt,cs,vs,e,(hk rfl).trans h1,h2,h3,RpEs.mono hl.I true sz es vs h4,h5⟩
 case dead=>trivial
 case row t fl sz es=>
  rcases h with h|⟨h0,tt,cs,vs,h1,h2,h3,h4,h5⟩
  ·exact .inl h
  ·exact .inr ⟨h0,tt,cs,vs,(hk (z101 h0)).trans h1,h2,h3,RpEs.mono hl.I fl sz es vs h4,h5⟩
 case fro fl sz es=>
  rcases h with h|⟨h1,h2,vs,h3,h4⟩
  ·exact .inl h
  exact .inr ⟨hl.S c h1,h2,vs,RpEs.mono hl.I fl sz es vs h3,h4.mono (hl.I c h1).2⟩
 case box t cells=>
  obtain⟨cs,h1,h2,h3⟩:=h
  exact⟨cs,(hk rfl).trans h1,RpL.mono hl h2,h3⟩
theorem BlkOk.mono{G G':Gh}{w w':World}(hl:Le G w G' w'){c cp:Nat}{k:Blk}(h:BlkOk G w c cp k)(hk:k.own=true->w'.heap[c]?=w.heap[c]?)(hn:k.isLin=false):BlkOk G' w' c cp k:=
h.monoX hl hk fun h=>by rw[hn]at h;cases h
end Go.Proofs.YtbaclnecajkknaaGreat.Pi

