/- Pi: what the interpreter's values and blocks stand for in a world. -/
import Derived.Test.YtbaclnecajkknaaGreatPiDefs
open Nat renaming add_mul->L'2,one_mul->L'3,mul_comm->L'4,mul_assoc->L'5,pow_zero->L'7,pow_succ->L'8
open List renaming toArray->L'6,drop_append->L'9,drop_of_length_le->L'a,getElem?_eq_some_iff->L'b,take_append->L'd,take_of_length_le->L'e,replicate->L'0
open Bool renaming and_eq_true->L'c
namespace Go.Proofs.YtbaclnecajkknaaGreat.Pi
open Go
set_option linter.all false

structure Gh where
  S : Nat -> Prop
  T : Nat -> Prop
  ids : Nat -> Option (Nat × Nat)
  X : Nat -> Option Nat              -- rows that lie in a row: the block of that

def At(w:World)(c off:Nat)(vs:List Value):Prop:=∀i v,vs[i]?=some v->w.cell? ⟨c,off+i,none⟩=some v
def enc(o n:Nat):Nat:=2^o*(2*n+1)
theorem zdq:∀{o o' n n':Nat},enc o n=enc o' n'->o=o'/\n=n'
 |0,0,n,n',h=>by simp only[enc,L'7,L'3]at h;exact⟨rfl,by omega⟩
 |0,o+1,n,n',h=>by
  simp only[enc,L'7,L'3,L'8]at h
  rw[L'4 (2^o) 2,L'5]at h;omega
 |o+1,0,n,n',h=>by
  simp only[enc,L'7,L'3,L'8]at h
  rw[L'4 (2^o) 2,L'5]at h;omega
 |o+1,o'+1,n,n',h=>by
  simp only[enc,L'8]at h
  rw[L'4 (2^o) 2,L'4 (2^o') 2,L'5,L'5]at h
  have:=zdq (o:=o) (o':=o') (n:=n) (n':=n') (by unfold enc;omega)
  exact⟨by omega,this.2⟩
mutual
def RpI(S:Nat->Prop)(w:World):PV->Value->Prop
|.int k n,v=>v=.int k n
|.bool b,v=>v=.bool b
|.str s,v=>v=.string s
|.nil _ _,v=>v=.slice none 0 0
|.sl fl sz es,v=>∃A cap vs,v=.slice A es.length cap/\es.length<=cap/\RpEs S w fl sz es vs/\(A=none->cap=0)/\(es=[]\/∃c off,A=some ⟨c,off,none⟩/\S c/\At w c off vs)
|.agg cs,v=>∃vs,v=.agg (L'6 vs)/\RpIL S w cs vs
|_,_=>False
termination_by structural x => x
def RpIL(S:Nat->Prop)(w:World):List PV->List Value->Prop
|[],vs=>vs=[]
|x::xs,vs=>∃v rest,vs=v::rest/\RpI S w x v/\RpIL S w xs rest
termination_by structural x => x
def RpEs(S:Nat->Prop)(w:World)(fl:Bool)(sz:Nat):List PV->List Value->Prop
|[],vs=>vs=[]
|x::xs,vs=>∃v rest,vs=v.cells.toList++rest/\RpI S w x v/\okE fl sz x=true/\RpEs S w fl sz xs rest
termination_by structural x => x
end

mutual
def Rp(G:Gh)(w:World):PV->Value->Prop
|.any,_=>True
|.undef,v=>v=Go.undef
|.ref b sz off len,v=>∃c cap cp,G.ids b=some (c,cp)/\off+cap=cp/\len<=cap/\∃A,v=.slice A len cap/\(cp=0\/A=some ⟨c,off*sz,none⟩)
|.ptr b off,v=>∃c cp,G.ids b=some (c,cp)/\v=.pointer (some ⟨c,off,none⟩)
|.ep b sz i off,v=>∃c cp,G.ids b=some (c,cp)/\v=.pointer (some ⟨c,i*sz+off,none⟩)
|.qref b sz off len,v=>∃c o n cap,G.ids b=some (c,enc o n)/\off+cap=n/\len<=cap/\∃A,v=.slice A len cap/\(cap=0\/A=some ⟨c,(o+off)*sz,none⟩)
|.qep b sz i off,v=>∃c o n,G.ids b=some (c,enc o n)/\v=.pointer (some ⟨c,(o+i)*sz+off,none⟩)
|.pv x off,v=>∃c o vx,v=.pointer (some ⟨c,o+off,none⟩)/\G.T c/\Rp G w x vx/\x.cells.all PV.one=true/\At w c o vx.cells.toList
|.nilp,v=>v=.pointer none
|.nilf,v=>v=.nilFunc
|.clo f caps,v=>∃vs,v=.func (.func f) #[] (L'6 vs)/\RpL G w caps vs
|.agg cs,v=>∃vs,v=.agg (L'6 vs)/\RpL G w cs vs
|.tup cs,v=>∃vs,v=.tuple (L'6 vs)/\RpL G w cs vs
|.int k n,v=>v=.int k n
|.bool b,v=>v=.bool b
|.str s,v=>v=.string s
|.nil _ _,v=>v=.slice none 0 0
|.sl fl sz es,v=>RpI G.S w (.sl fl sz es) v
|.sle _ _,v=>∃a c,v=.slice (some a) 0 c
|.un ..,_=>False
|.unn ..,_=>False
termination_by structural x => x
def RpL(G:Gh)(w:World):List PV->List Value->Prop
|[],vs=>vs=[]
|x::xs,vs=>∃v rest,vs=v::rest/\Rp G w x v/\RpL G w xs rest
termination_by structural x => x
end

/-! ### Immutable values -/
theorem At.mono{w w':World}{c off:Nat}{vs:List Value}(h:At w c off vs)(hb:w'.heap[c]?=w.heap[c]?):At w' c off vs:=
fun i v hv=>(World.cell?_of_block hb).trans (h i v hv)
mutual
theorem RpI.mono{S S':Nat->Prop}{w w':World}(hS:∀c,S c->S' c/\w'.heap[c]?=w.heap[c]?):∀(x:PV)(v:Value),RpI S w x v->RpI S' w' x v
 |.int _ _,_,h|.bool _,_,h|.str _,_,h|.nil _ _,_,h=>h
 |.sl fl sz es,v,h=>by
  obtain⟨A,cap,vs,h1,h2,h3,h0,h4⟩:=h
  refine⟨A,cap,vs,h1,h2,RpEs.mono hS fl sz es vs h3,h0,?_⟩
  rcases h4 with h4|⟨c,off,h5,h6,h7⟩
  ·exact .inl h4
  ·exact .inr ⟨c,off,h5,(hS c h6).1,h7.mono (hS c h6).2⟩
 |.agg cs,v,h=>by
  obtain⟨vs,h1,h2⟩:=h
  exact⟨vs,h1,RpIL.mono hS cs vs h2⟩
 |.any,_,h|.undef,_,h|.ref ..,_,h|.ptr ..,_,h|.ep ..,_,h|.pv ..,_,h|.nilp,_,h|.nilf,_,h|.clo ..,_,h|.tup ..,_,h|.un ..,_,h|.sle ..,_,h|.unn ..,_,h|.qref ..,_,h|.qep ..,_,h=>h
termination_by structural x => x
theorem RpIL.mono{S S':Nat->Prop}{w w':World}(hS:∀c,S c->S' c/\w'.heap[c]?=w.heap[c]?):∀(xs:List PV)(vs:List Value),RpIL S w xs vs->RpIL S' w' xs vs
 |[],_,h=>h
 |x::xs,vs,h=>by
  obtain⟨v,rest,h1,h2,h3⟩:=h
  exact⟨v,rest,h1,RpI.mono hS x v h2,RpIL.mono hS xs rest h3⟩
termination_by structural x => x
theorem RpEs.mono{S S':Nat->Prop}{w w':World}(hS:∀c,S c->S' c/\w'.heap[c]?=w.heap[c]?)(fl:Bool)(sz:Nat):∀(xs:List PV)(vs:List Value),RpEs S w fl sz xs vs->RpEs S' w' fl sz xs vs
 |[],_,h=>h
 |x::xs,vs,h=>by
  obtain⟨v,rest,h1,h2,h3,h4⟩:=h
  exact⟨v,rest,h1,RpI.mono hS x v h2,h3,RpEs.mono hS fl sz xs rest h4⟩
termination_by structural x => x
end

theorem RpIL.length{S:Nat->Prop}{w:World}:∀{xs:List PV}{vs:List Value},RpIL S w xs vs->vs.length=xs.length
 |[],_,h=>by simp[RpIL]at h;simp[h]
 |x::xs,vs,h=>by
  obtain⟨v,rest,rfl,h2,h3⟩:=h
  simp[RpIL.length h3]
theorem RpI.one{S:Nat->Prop}{w:World}{x:PV}{v:Value}(h:RpI S w x v)(hx:x.imm1=true):v.oneCell'=true/\v.cells=#[v]/\x.cells=[x]:=by
 cases x<;>simp[PV.imm1]at hx<;>simp only[RpI]at h
 case int=>subst h;simp[Value.oneCell',Value.cells,PV.cells]
 case bool=>subst h;simp[Value.oneCell',Value.cells,PV.cells]
 case str=>subst h;simp[Value.oneCell',Value.cells,PV.cells]
 case nil=>subst h;simp[Value.oneCell',Value.cells,PV.cells]
 case sl=>obtain⟨A,cap,vs,rfl,_⟩:=h;simp[Value.oneCell',Value.cells,PV.cells]
theorem RpI.cells{S:Nat->Prop}{w:World}{x:PV}{v:Value}(h:RpI S w x v):RpIL S w x.cells v.cells.toList:=by
 cases x<;>simp only[RpI]at h
 case agg cs=>obtain⟨vs,rfl,h⟩:=h;simpa [Value.cells,PV.cells]using h
 case sl=>have:=RpI.one (x:=.sl ..) (by simpa [RpI]using h) rfl;rw[this.2.1,this.2.2];exact⟨v,[],rfl,by simpa [RpI]using h,rfl⟩
 all_goals first
  |(subst h;simp[Value.cells,PV.cells,RpIL,RpI];done)
  |exact h.elim
theorem RpIL.get{S:Nat->Prop}{w:World}:∀{xs:List PV}{vs:List Value}(i:Nat){x:PV},RpIL S w xs vs->xs[i]?=some x->∃v,vs[i]?=some v/\RpI S w x v
 |[],_,_,_,_,hx=>by simp at hx
 |y::ys,vs,0,x,h,hx=>by
  obtain⟨v,rest,rfl,h2,h3⟩:=h
  simp at hx;subst hx;exact⟨v,by simp,h2⟩
 |y::ys,vs,i+1,x,h,hx=>by
  obtain⟨v,rest,rfl,h2,h3⟩:=h
  simpa using RpIL.get i h3 (by simpa using hx)
theorem RpIL.append{S:Nat->Prop}{w:World}:∀{xs ys:List PV} {vs us:List Value},RpIL S w xs vs->RpIL S w ys us->RpIL S w (xs++ys) (vs++us)
 |[],_,_,_,h,h'=>by simp[RpIL]at h;subst h;simpa using h'
 |x::xs,ys,vs,us,h,h'=>by
  obtain⟨v,rest,rfl,h2,h3⟩:=h
  exact⟨v,rest++us,by simp,h2,RpIL.append h3 h'⟩
theorem RpIL.take{S:Nat->Prop}{w:World}:∀{xs:List PV} {vs:List Value} (n:Nat),RpIL S w xs vs->RpIL S w (xs.take n) (vs.take n)
 |[],_,n,h=>by simp[RpIL]at h;subst h;simp[RpIL]
 |x::xs,vs,0,h=>by simp[RpIL]
 |x::xs,vs,n+1,h=>by
  obtain⟨v,rest,rfl,h2,h3⟩:=h
  exact⟨v,rest.take n,by simp,h2,RpIL.take n h3⟩
theorem RpIL.drop{S:Nat->Prop}{w:World}:∀{xs:List PV} {vs:List Value} (n:Nat),RpIL S w xs vs->RpIL S w (xs.drop n) (vs.drop n)
 |[],_,n,h=>by simp[RpIL]at h;subst h;simp[RpIL]
 |x::xs,vs,0,h=>by simpa using h
 |x::xs,vs,n+1,h=>by
  obtain⟨v,rest,rfl,h2,h3⟩:=h
  simpa using RpIL.drop n h3
/-! ### Elements of a row -/
section
variable {S:Nat->Prop}{w:World}{fl:Bool}{sz:Nat}
theorem zwa{S:Nat->Prop}{w:World}{x:PV}{v:Value}(h:RpI S w x v)(ho:okE fl sz x=true):v.cells.toList.length=sz:=by
 have:=RpIL.length h.cells
 simp[okE]at ho
 omega
theorem zw8{x:PV}{v:Value}(h:RpI S w x v)(ho:okE fl sz x=true):∀u∈v.cells.toList,u.oneCell'=true:=by
 intro u hu
 obtain⟨i,hi⟩:=List.mem_iff_getElem?.1 hu
 have hl:=RpIL.length h.cells
 have hlt:i<x.cells.length:=by
  rw[<-hl];exact(L'b.1 hi).1
 obtain⟨u',h1,h2⟩:=RpIL.get i h.cells (List.getElem?_eq_getElem hlt)
 rw[hi]at h1;cases h1
 simp only[okE,L'c,List.all_eq_true]at ho
 exact(RpI.one h2 (ho.2 _ (List.getElem_mem hlt)).1).1
theorem RpEs.length:∀{es:List PV}{vs:List Value},RpEs S w fl sz es vs->vs.length=es.length*sz
 |[],_,h=>by simp[RpEs]at h;simp[h]
 |x::xs,vs,h=>by
  obtain⟨v,rest,rfl,h2,h3,h4⟩:=h
  rw[List.length_append,zwa h2 h3,RpEs.length h4,List.length_cons,L'2,L'3,Nat.add_comm]
theorem RpEs.one:∀{es:List PV}{vs:List Value},RpEs S w fl sz es vs->∀u∈vs,u.oneCell'=true
 |[],_,h=>by simp[RpEs]at h;simp[h]
 |x::xs,vs,h=>by
  obtain⟨v,rest,rfl,h2,h3,h4⟩:=h
  intro u hu
  rcases List.mem_append.1 hu with hu|hu
  ·exact zw8 h2 h3 u hu
  ·exact RpEs.one h4 u hu
theorem RpEs.append:∀{xs ys:List PV} {vs us:List Value},RpEs S w fl sz xs vs->RpEs S w fl sz ys us->RpEs S w fl sz (xs++ys) (vs++us)
 |[],_,_,_,h,h'=>by simp[RpEs]at h;subst h;simpa using h'
 |x::xs,ys,vs,us,h,h'=>by
  obtain⟨v,rest,rfl,h2,h3,h4⟩:=h
  exact⟨v,rest++us,by simp,h2,h3,RpEs.append h4 h'⟩
theorem RpEs.take:∀{xs:List PV} {vs:List Value} (n:Nat),RpEs S w fl sz xs vs->RpEs S w fl sz (xs.take n) (vs.take (n*sz))
 |[],_,n,h=>by simp[RpEs]at h;subst h;simp[RpEs]
 |x::xs,vs,0,h=>by simp[RpEs]
 |x::xs,vs,n+1,h=>by
  obtain⟨v,rest,rfl,h2,h3,h4⟩:=h
  have hl:=zwa h2 h3
  refine⟨v,rest.take (n*sz),?_,h2,h3,RpEs.take n h4⟩
  rw[L'd,L'e (by rw[hl,L'2];omega),hl,L'2]
  congr 2
  omega
theorem RpEs.drop:∀{xs:List PV} {vs:List Value} (n:Nat),RpEs S w fl sz xs vs->RpEs S w fl sz (xs.drop n) (vs.drop (n*sz))
 |[],_,n,h=>by simp[RpEs]at h;subst h;simp[RpEs]
 |x::xs,vs,0,h=>by simpa using h
 |x::xs,vs,n+1,h=>by
  obtain⟨v,rest,rfl,h2,h3,h4⟩:=h
  have hl:=zwa h2 h3
  have:(v.cells.toList++rest).drop ((n+1)*sz)=rest.drop (n*sz):=by
   rw[L'9,L'a (by rw[hl,L'2];omega),hl,L'2]
   simp
  rw[this]
  simpa using RpEs.drop n h4
theorem RpEs.get:∀{xs:List PV}{vs:List Value}(i:Nat){x:PV},RpEs S w fl sz xs vs->xs[i]?=some x ->
  ∃v,RpI S w x v/\okE fl sz x=true/\∀j u,v.cells.toList[j]?=some u->vs[i*sz+j]?=some u
 |[],_,_,_,_,hx=>by simp at hx
 |y::ys,vs,0,x,h,hx=>by
  obtain⟨v,rest,rfl,h2,h3,h4⟩:=h
  simp at hx;subst hx
  refine⟨v,h2,h3,fun j u hu=>?_⟩
  have:=(L'b.1 hu).1
  simpa [List.getElem?_append_left this]using hu
 |y::ys,vs,i+1,x,h,hx=>by
  obtain⟨v,rest,rfl,h2,h3,h4⟩:=h
  obtain⟨v',h5,h6,h7⟩:=RpEs.get i h4 (by simpa using hx)
  refine⟨v',h5,h6,fun j u hu=>?_⟩
  have hl:=zwa h2 h3
  rw[List.getElem?_append_right (by rw[hl,L'2];omega),hl,L'2]
  have:=h7 j u hu
  rw[show i*sz+1*sz+j-sz=i*sz+j by omega]
  exact this
theorem RpEs.set:∀{xs:List PV} {vs:List Value} (i:Nat) {x:PV} {v:Value},RpEs S w fl sz xs vs->i<xs.length->RpI S w x v->okE fl sz x=true ->
  RpEs S w fl sz (xs.set i x) (vs.take (i*sz)++v.cells.toList++vs.drop ((i+1)*sz))
 |[],_,_,_,_,_,hi,_,_=>by simp at hi
 |y::ys,vs,0,x,v,h,hi,hv,ho=>by
  obtain⟨u,rest,rfl,h2,h3,h4⟩:=h
  have hl:=zwa h2 h3
  refine⟨v,rest,?_,hv,ho,h4⟩
  have:(u.cells.toList++rest).drop sz=rest:=by rw[L'9,L'a (by omega),hl];simp
  simp[this]
 |y::ys,vs,i+1,x,v,h,hi,hv,ho=>by
  obtain⟨u,rest,rfl,h2,h3,h4⟩:=h
  have hl:=zwa h2 h3
  refine⟨u,_,?_,h2,h3,RpEs.set i h4 (by simpa using hi) hv ho⟩
  have e1:(u.cells.toList++rest).take ((i+1)*sz)=u.cells.toList++rest.take (i*sz):=by
   rw[L'd,L'e (by rw[hl,L'2];omega),hl,L'2]
   simp
  have e2:(u.cells.toList++rest).drop ((i+1+1)*sz)=rest.drop ((i+1)*sz):=by
   rw[L'9,L'a (by rw[hl,L'2,L'3];omega),hl,L'2 (i+1)]
   simp
  rw[e1,e2]
  simp
theorem RpEs.replicate{x:PV}{v:Value}(hv:RpI S w x v)(ho:okE fl sz x=true):∀n,RpEs S w fl sz (L'0 n x) (L'0 n v.cells.toList).flatten
|0=>by simp[RpEs]
|n+1=>⟨v,_,by simp[List.replicate_succ],hv,ho,RpEs.replicate hv ho n⟩
end
/-! ### Rows in a row that are its own -/
def RpC(w:World)(x:PV)(v:Value)(f:List Nat):Prop:=
(f=[]/\((x.scalar=true/\RpI (fun _=>False) w x v)\/(∃fl sz,x=.nil fl sz/\v=.slice none 0 0)\/(∃fl sz A cap,x=.sl fl sz []/\v=.slice A 0 cap/\(A=none->cap=0)))) \/
(∃c cp t sz es,f=[c]/\x=.sl true sz es/\es≠[]/\v=.slice (some ⟨c,0,none⟩) es.length cp/\es.length<=cp/\∃(cs:Array Value)(vs:List Value),w.heap[c]?=some (.cells cs t (0,0))/\cs.size=cp*sz/\RpEs (fun _=>False) w true sz es vs/\cs.toList.take (es.length*sz)=vs)
def RpD(w:World):List PV->List Value->List Nat->Prop
|[],vs,f=>vs=[]/\f=[]
|x::xs,vs,f=>∃v rest f1 f2,vs=v::rest/\f=f1++f2/\RpC w x v f1/\RpD w xs rest f2
theorem RpC.mono{w w':World}{x:PV}{v:Value}{f:List Nat}(h:RpC w x v f)(hw:∀c∈f,w'.heap[c]?=w.heap[c]?):RpC w' x v f:=by
 rcases h with⟨h1,h2⟩|⟨c,cp,t,sz,es,rfl,h2,h3,h4,h5,cs,vs,h6,h7,h8,h9⟩
 ·refine .inl ⟨h1,h2.imp (fun h=>⟨h.1,RpI.mono (fun _ h=>h.elim) _ _ h.2⟩) id⟩
 ·exact .inr ⟨c,cp,t,sz,es,rfl,h2,h3,h4,h5,cs,vs,(hw c (by simp)).trans h6,h7,RpEs.mono (fun _ h=>h.elim) _ _ _ _ h8,h9⟩
theorem RpD.mono{w w':World}:∀{xs:List PV}{vs:List Value}{f:List Nat},RpD w xs vs f->(∀c∈f,w'.heap[c]?=w.heap[c]?)->RpD w' xs vs f
 |[],_,_,h,_=>h
 |x::xs,vs,f,h,hw=>by
  obtain⟨v,rest,f1,f2,h1,rfl,h3,h4⟩:=h
  exact⟨v,rest,f1,f2,h1,rfl,h3.mono fun c hc=>hw c (by simp[hc]),RpD.mono h4 fun c hc=>hw c (by simp[hc])⟩
theorem RpC.imm{w:World}{x:PV}{v:Value}{f:List Nat}(h:RpC w x v f):x.imm1=true:=by
 rcases h with⟨_,h|⟨_,_,rfl,_⟩|⟨_,_,_,_,rfl,_⟩⟩|⟨_,_,_,_,_,_,rfl,_⟩
 ·have:=h.1;cases x<;>simp_all [PV.scalar,PV.imm1]
 all_goals rfl
theorem RpC.toI{S:Nat->Prop}{w:World}{x:PV}{v:Value}{f:List Nat}(h:RpC w x v f)(hS:∀c∈f,S c):RpI S w x v:=by
 rcases h with⟨_,h|⟨_,_,rfl,rfl⟩|⟨_,_,A,cap,rfl,rfl,hz⟩⟩|⟨c,cp,t,sz,es,rfl,rfl,h3,rfl,h5,cs,vs,h6,h7,h8,h9⟩
 ·exact RpI.mono (fun _ h=>h.elim) _ _ h.2
 ·rfl
 ·exact⟨A,cap,[],rfl,Nat.zero_le _,rfl,hz,.inl rfl⟩
 ·refine⟨_,cp,vs,rfl,h5,RpEs.mono (fun _ h=>h.elim) _ _ _ _ h8,fun h=>(by cases h),.inr ⟨c,0,rfl,hS c (by simp),?_⟩⟩
  intro i u hu
  rw[Nat.zero_add,World.cell?,h6]
  rw[<-h9,List.getElem?_take]at hu
  split at hu
  ·simpa using hu
  ·cases hu
theorem RpD.length{w:World}:∀{xs:List PV}{vs:List Value}{f:List Nat},RpD w xs vs f->vs.length=xs.length
 |[],_,_,h=>by obtain⟨rfl,_⟩:=h;rfl
 |x::xs,vs,f,h=>by
  obtain⟨v,rest,f1,f2,rfl,_,_,h4⟩:=h
  simp[RpD.length h4]
theorem RpD.toI{S:Nat->Prop}{w:World}:∀{xs:List PV}{vs:List Value}{f:List Nat},RpD w xs vs f->(∀c∈f,S c)->RpIL S w xs vs
 |[],_,_,h,_=>h.1
 |x::xs,vs,f,h,hS=>by
  obtain⟨v,rest,f1,f2,h1,rfl,h3,h4⟩:=h
  exact⟨v,rest,h1,h3.toI fun c hc=>hS c (by simp[hc]),h4.toI fun c hc=>hS c (by simp[hc])⟩
theorem RpD.append{w:World}:∀{xs ys:List PV} {vs us:List Value} {f g:List Nat},RpD w xs vs f->RpD w ys us g->RpD w (xs++ys) (vs++us) (f++g)
 |[],ys,vs,us,f,g,h,h'=>by obtain⟨rfl,rfl⟩:=h;simpa using h'
 |x::xs,ys,vs,us,f,g,h,h'=>by
  obtain⟨v,rest,f1,f2,rfl,rfl,h3,h4⟩:=h
  exact⟨v,rest++us,f1,f2++g,by simp,by simp,h3,RpD.append h4 h'⟩
theorem RpD.split{w:World}:∀{xs:List PV} {vs:List Value} {f:List Nat} (n:Nat),RpD w xs vs f->∃f1 f2,f=f1++f2/\RpD w (xs.take n) (vs.take n) f1/\RpD w (xs.drop n) (vs.drop n) f2
 |[],vs,f,n,h=>by obtain⟨rfl,rfl⟩:=h;exact⟨[],[],rfl,by simp[RpD],by simp[RpD]⟩
 |x::xs,vs,f,0,h=>⟨[],f,rfl,by simp[RpD],by simpa using h⟩
 |x::xs,vs,f,n+1,h=>by
  obtain⟨v,rest,f1,f2,rfl,rfl,h3,h4⟩:=h
  obtain⟨g1,g2,rfl,k1,k2⟩:=RpD.split n h4
  exact⟨f1++g1,g2,by simp,⟨v,rest.take n,f1,g1,by simp,rfl,h3,k1⟩,by simpa using k2⟩
theorem RpD.scalars{w:World}:∀{xs:List PV}{vs:List Value},(∀x∈xs,x.imm1=true/\(x.scalar=true\/∃fl sz,x=.nil fl sz))->RpIL (fun _=>False) w xs vs->RpD w xs vs []
 |[],_,_,h=>⟨h,rfl⟩
 |x::xs,vs,hx,h=>by
  obtain⟨v,rest,rfl,h2,h3⟩:=h
  refine⟨v,rest,[],[],rfl,rfl,.inl ⟨rfl,?_⟩,RpD.scalars (fun y hy=>hx y (by simp[hy])) h3⟩
  rcases(hx x (by simp)).2 with h|⟨fl,sz,rfl⟩
  ·exact .inl ⟨h,h2⟩
  ·exact .inr (.inl ⟨fl,sz,rfl,h2⟩)
theorem RpIL.elem{S:Nat->Prop}{w:World}{fl:Bool}{sz:Nat}{e:PV}{vs:List Value}(h:RpIL S w e.cells vs)(ho:okE fl sz e=true):∃v,RpI S w e v/\v.cells.toList=vs:=by
 cases e
 case agg cs=>exact⟨.agg vs.toArray,⟨vs,rfl,h⟩,by simp[Value.cells]⟩
 all_goals
  obtain⟨v,rest,rfl,h2,h3⟩:=h
  simp only[RpIL]at h3
  subst h3
  simp only[okE,PV.cells,L'c,List.all_cons]at ho
  exact⟨v,h2,by rw[(RpI.one h2 ho.2.1.1).2.1]⟩
theorem RpIL.elems{S:Nat->Prop}{w:World}{fl:Bool}{sz:Nat}:∀{es:List PV}{vs:List Value},RpIL S w (es.flatMap PV.cells) vs->(∀e∈es,okE fl sz e=true)->RpEs S w fl sz es vs
 |[],_,h,_=>h
 |e::es,vs,h,ho=>by
  rw[List.flatMap_cons]at h
  have hl:=h.length
  have h1:=h.take e.cells.length
  have h2:=h.drop e.cells.length
  rw[List.take_left]at h1
  rw[List.drop_left]at h2
  obtain⟨v,k1,k2⟩:=h1.elem (ho e (by simp))
  exact⟨v,vs.drop e.cells.length,by rw[k2,List.take_append_drop],k1,ho e (by simp),RpIL.elems h2 fun x hx=>ho x (by simp[hx])⟩
end Go.Proofs.YtbaclnecajkknaaGreat.Pi

