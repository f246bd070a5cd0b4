/- Pi: what goes into a call, and what comes out. -/
import Derived.Test.YtbaclnecajkknaaGreatPiPurf
open Nat renaming le_refl->L'l,lt_of_lt_of_le->L'i
open List renaming getElem?_append_left->L'm,map_append->M'r,mem_append->L'j,mem_map->M's,map_cons->M'n,toArray->L'6,nodup_append->M't,getElem?_eq_some_iff->L'b,getElem?_append->M'u,mem_of_getElem?->M'v,mem_cons_of_mem->M'x,any_eq_false->M'y
open Option renaming map_eq_some_iff->M'0,bind_eq_some_iff->L's
open Bool renaming false_eq_true->M'w
namespace Go.Proofs.YtbaclnecajkknaaGreat.Pi
open Go
set_option linter.all false

/-! ### By value -/
def Gh.view(G:Gh)(mem:List Blk)(R:List Nat):Gh where
 S c:=G.S c\/(∃b∈R,∃t fl sz es cp,mem[b]?=some (.row t fl sz es)/\es≠[]/\G.ids b=some (c,cp))\/(∃b∈R,∃t sz es d cp,mem[b]?=some (.lin t sz es)/\es≠[]/\G.ids b=some (d,cp)/\(c=d\/G.X c=some d))
 T c:=G.T c\/(∃b∈R,∃k cp,mem[b]?=some k/\k.own=true/\G.ids b=some (c,cp))\/∃d,G.X c=some d
 ids _:=none
 X _:=none
section
variable {P:Program}{G:Gh}{w w':World}{mem:List Blk}
theorem Good.view(h:Good G w mem)(R:List Nat):Good (G.view mem R) w []:=by
 refine⟨fun b p hp=>(by cases hp),fun b k c cp hb _=>(by simp at hb),?_,?_,?_,fun b b' k k' c cp cp' hb=>(by simp at hb),fun c d hd=>(by cases hd),fun c d hd=>(by cases hd)⟩
 ·rintro c (hc|⟨b,hb,t,fl,sz,es,cp,h1,h0,h2⟩|⟨b,hb,t,sz,es,d,cp,h1,h0,h2,rfl| h3⟩)
  ·exact .inl (h.ST c hc)
  ·exact .inr (.inl ⟨b,hb,_,cp,h1,z101 h0,h2⟩)
  ·exact .inr (.inl ⟨b,hb,_,cp,h1,z100 h0,h2⟩)
  ·exact .inr (.inr ⟨d,h3⟩)
 ·rintro c (hc|⟨b,hb,k,cp,h1,h2,h3⟩|⟨d,hd⟩)
  ·exact h.lt c hc
  ·exact h.ownLt (.inl ⟨b,k,cp,h1,h2,h3⟩)
  ·exact h.xlt c d hd
 ·rintro c (⟨b,k,cp,hb,_⟩|⟨d,hd⟩)
  ·simp at hb
  ·cases hd
theorem z16v(_hG:Good G w mem){R:List Nat}{b sz off len c cp:Nat}{x:Bool×List PV}(hR:b∈R)(hi:G.ids b=some (c,cp))(h:rowAt mem b sz off len=some x):x.2=[]\/(G.view mem R).S c:=by
 unfold rowAt at h
 split at h
 ·rename_i t fl sz' es hb
  by_cases h0:es=[]
  ·subst h0
   split at h
   ·cases h;exact .inl (by simp)
   ·cases h
  ·exact .inr (.inr (.inl ⟨b,hR,t,fl,sz',es,cp,hb,h0,hi⟩))
 ·rename_i fl sz' es hb
  by_cases h0:es=[]
  ·subst h0
   split at h
   ·cases h;exact .inl (by simp)
   ·cases h
  ·exact .inr (.inl (zi1 (_hG.blk b _ c cp hb hi) h0).1)
 ·cases h
theorem z16t(hG:Good G w mem){R:List Nat}{b sz off len c cp:Nat}{fl:Bool}{es:List PV}(hR:b∈R)(hi:G.ids b=some (c,cp))(h:z16r mem b sz off len=some (fl,es)) :
  es.length=len/\off+len<=cp/\∃vs,RpEs (G.view mem R).S w fl sz es vs/\(es=[]\/(At w c (off*sz) vs/\(G.view mem R).S c)):=by
 unfold z16r at h
 split at h
 ·rename_i t sz' es' hb
  split at h
  case isFalse=>cases h
  rename_i hq
  obtain⟨hq,rfl⟩:=hq
  cases h
  by_cases h0:es'=[]
  ·subst h0
   simp only[List.length_nil,Nat.le_zero_eq]at hq
   obtain⟨rfl,rfl⟩:off=0/\len=0:=by omega
   exact⟨rfl,by omega,[],by simp[RpEs],.inl (by simp)⟩
  obtain⟨cs,vs,f,e1,e2,e3,e4,e5,e6,e7,e8⟩:=zr3 (hG.blk b _ c cp hb hi) h0
  have hS:∀x,x=c\/G.X x=some c->(G.view mem R).S x:=fun x hx=>.inr (.inr ⟨b,hR,t,sz',es',c,cp,hb,h0,hi,hx⟩)
  have hes:=(e5.toI (S:=(G.view mem R).S) fun x hx=>hS x (.inr (e8 x hx))).elems e4
  refine⟨by simp;omega,by omega,(vs.drop (off*sz')).take (len*sz'),(hes.drop off).take len,.inr ⟨?_,hS c (.inl rfl)⟩⟩
  have:=(At.row0 e1 e6).sub (us:=(vs.drop (off*sz')).take (len*sz')) (off*sz') (fun j u hu=>by
   rw[List.getElem?_take]at hu
   split at hu
   ·rwa [List.getElem?_drop]at hu
   ·cases hu)
  simpa using this
 ·obtain⟨e1,e2,vs,e3,e4⟩:=z16x hG hi h
  refine⟨e1,e2,vs,RpEs.mono (fun c hc=>⟨.inl hc,rfl⟩) _ _ _ _ e3,?_⟩
  rcases e4 with e4|e4
  ·exact .inl e4
  ·exact(z16v hG hR hi h).imp id fun h=>⟨e4,h⟩
mutual
theorem z1h0(hG:Good G w mem){R:List Nat}{g:Nat->Nat->Option PV}(hg:∀b off y v,b∈R->g b off=some y->Rp G w (.ptr b off) v->Rp (G.view mem R) w y v) :
  ∀(x y:PV) (v:Value),x.viewWith R mem g=some y->Rp G w x v->Rp (G.view mem R) w y v
 |.ref b sz off len,y,v,h,hx=>by
  simp only[PV.viewWith]at h
  split at h
  case isFalse=>cases h
  rename_i hR
  have hR:b∈R:=by simpa using hR
  simp only[M'0]at h
  obtain⟨⟨fl,es⟩,h1,rfl⟩:=h
  obtain⟨c,cap,cp,k1,k2,k3,A,rfl,hA⟩:=hx
  obtain⟨e1,e2,vs,e3,e4⟩:=z16t hG hR k1 h1
  have e1:es.length=len:=e1
  refine⟨_,cap,vs,by rw[e1],by show es.length<=cap;omega,e3,capz hA k2,?_⟩
  rcases e4 with e4|⟨e4,e5⟩
  ·exact .inl e4
  rcases hA with hA|rfl
  ·exact .inl (List.eq_nil_of_length_eq_zero (by rw[e1];omega))
  ·exact .inr ⟨c,off*sz,rfl,e5,e4⟩
 |.nil fl sz,y,v,h,hx=>by
  simp only[PV.viewWith,Option.some.injEq]at h
  subst h
  simp only[Rp]at hx
  exact⟨none,0,[],hx,L'l _,rfl,fun _=>rfl,.inl rfl⟩
 |.ptr b off,y,v,h,hx=>by
  simp only[PV.viewWith]at h
  split at h
  case isFalse=>cases h
  rename_i hR
  exact hg b off y v (by simpa using hR) h hx
 |.clo f caps,y,v,h,hx=>by
  simp only[PV.viewWith,M'0]at h
  obtain⟨c,h1,rfl⟩:=h
  obtain⟨vs,rfl,h2⟩:=hx
  exact⟨vs,rfl,z1gw hG hg caps c vs h1 h2⟩
 |.agg cs,y,v,h,hx=>by
  simp only[PV.viewWith,M'0]at h
  obtain⟨c,h1,rfl⟩:=h
  obtain⟨vs,rfl,h2⟩:=hx
  exact⟨vs,rfl,z1gw hG hg cs c vs h1 h2⟩
 |.int ..,y,v,h,hx|.bool _,y,v,h,hx|.str _,y,v,h,hx|.nilp,y,v,h,hx|.nilf,y,v,h,hx=>by
  simp only[PV.viewWith,Option.some.injEq]at h
  subst h;exact hx
 |.sl fl sz es,y,v,h,hx=>by
  simp only[PV.viewWith,Option.some.injEq]at h
  subst h
  simp only[Rp]at hx ⊢
  exact RpI.mono (fun c hc=>⟨.inl hc,rfl⟩) _ _ hx
 |.pv x off,y,v,h,hx=>by
  simp only[PV.viewWith]at h
  split at h
  case isFalse=>cases h
  rename_i hr
  cases h
  have hr:x.refs=[]:=by simpa using hr
  have:=Rp.ren (G':=G.view mem R) (w':=w) (fun b=>b) (fun c hc=>⟨.inl hc,rfl⟩) (fun c hc=>⟨.inl hc,rfl⟩) (.pv x off) v (by simp[PV.refs,hr]) hx
  rwa [PV.ren_id]at this
 |.any,y,v,h,hx|.undef,y,v,h,hx|.ep ..,y,v,h,hx|.tup _,y,v,h,hx|.un ..,y,v,h,hx|.unn ..,y,v,h,hx|.sle ..,y,v,h,hx=>by
  simp[PV.viewWith]at h
termination_by structural x => x
theorem z1gw(hG:Good G w mem){R:List Nat}{g:Nat->Nat->Option PV}(hg:∀b off y v,b∈R->g b off=some y->Rp G w (.ptr b off) v->Rp (G.view mem R) w y v) :
  ∀(xs ys:List PV)(vs:List Value),z1gv R mem g xs=some ys->RpL G w xs vs->RpL (G.view mem R) w ys vs
 |[],ys,vs,h,hx=>by
  simp only[z1gv,Option.some.injEq]at h
  subst h;exact hx
 |x::xs,ys,vs,h,hx=>by
  simp only[z1gv,L's,M'0]at h
  obtain⟨y,h1,ys',h2,rfl⟩:=h
  obtain⟨v,rest,rfl,h3,h4⟩:=hx
  exact⟨v,rest,rfl,z1h0 hG hg x y v h1 h3,z1gw hG hg xs ys' rest h2 h4⟩
termination_by structural x => x
end

theorem z5p(hG:Good G w mem){R:List Nat}:∀(d b off:Nat)(y:PV)(v:Value),b∈R->z5n R mem d b off=some y->Rp G w (.ptr b off) v->Rp (G.view mem R) w y v
 |0,b,off,y,v,_,h,_=>by simp[z5n]at h
 |d+1,b,off,y,v,hR,h,hx=>by
  unfold z5n at h
  split at h
  case h_2=>cases h
  rename_i t cs hb
  simp only[L's]at h
  obtain⟨cs',h1,h2⟩:=h
  split at h2
  case isFalse=>cases h2
  rename_i hone
  cases h2
  obtain⟨c,cp,k1,rfl⟩:=hx
  obtain⟨arr,e1,e2,e3⟩:=hG.blk b _ c cp hb k1
  have hcs:=z1gw hG (fun b off y v hR=>z5p hG d b off y v hR) cs cs' arr.toList h1 e2
  exact⟨c,0,.agg arr,by simp,.inr (.inl ⟨b,hR,_,cp,hb,rfl,k1⟩),⟨arr.toList,by simp,hcs⟩,hone,.of_row e1 0 arr.size (by rw[List.drop_zero];exact List.take_of_length_le (by simp))⟩
theorem z1gy(hG:Good G w mem){R:List Nat}{xs ys:List PV}{vs:List Value}(h:viewL R mem xs=some ys)(hx:RpL G w xs vs):RpL (G.view mem R) w ys vs:=
z1gw hG (fun b off y v hR=>z5p hG 3 b off y v hR) xs ys vs h hx
/-! ### Results -/
def RpU1(G:Gh)(w:World):PV->Value->List (Nat×Nat)->Prop
|.un t fl sz es,v,us=>∃c cap A,us=(if es.isEmpty then[]else[(c,cap)])/\v=.slice A es.length cap/\(es=[]\/A=some ⟨c,0,none⟩)/\BlkOk G w c cap (.row t fl sz es)
|.unn t sz es,v,us=>∃c cap A f,us=(if es.isEmpty then[]else(c,cap)::f.map fun x=>(x,0))/\v=.slice A es.length cap/\(es=[]\/A=some ⟨c,0,none⟩)/\(es=[]->cap=0) /\
 (es=[]\/∃cs vs,w.heap[c]?=some (.cells cs t (0,0))/\cs.size=cap*sz/\es.length<=cap/\(∀e∈es,okE false sz e=true)/\RpD w (es.flatMap PV.cells) vs f/\cs.toList.take (es.length*sz)=vs/\∀x∈f,x<w.heap.size)
|x,v,us=>us=[]/\Rp G w x v
def RpU1L(G:Gh)(w:World):List PV->List Value->List (Nat×Nat)->Prop
|[],vs,us=>vs=[]/\us=[]
|x::xs,vs,us=>∃v rest u1 u2,vs=v::rest/\us=u1++u2/\RpU1 G w x v u1/\RpU1L G w xs rest u2
def RpUA(G:Gh)(w:World):PV->Value->List (Nat×Nat)->Prop
|.agg cs,v,us=>∃vs,v=.agg (L'6 vs)/\RpU1L G w cs vs us
|x,v,us=>RpU1 G w x v us
def RpUAL(G:Gh)(w:World):List PV->List Value->List (Nat×Nat)->Prop
|[],vs,us=>vs=[]/\us=[]
|x::xs,vs,us=>∃v rest u1 u2,vs=v::rest/\us=u1++u2/\RpUA G w x v u1/\RpUAL G w xs rest u2
def RpU(G:Gh)(w:World):PV->Value->List (Nat×Nat)->Prop
|.tup cs,v,us=>∃vs,v=.tuple (L'6 vs)/\RpUAL G w cs vs us
|x,v,us=>RpUA G w x v us
theorem z0c{x:PV}{v:Value}{us:List (Nat×Nat)}(hx:∀cs,x≠.agg cs):RpUA G w x v us↔RpU1 G w x v us:=by
 cases x<;>first|exact Iff.rfl|exact absurd rfl (hx _)
theorem z0d{x:PV}{v:Value}{us:List (Nat×Nat)}(hx:∀cs,x≠.tup cs):RpU G w x v us↔RpUA G w x v us:=by
 cases x<;>first|exact Iff.rfl|exact absurd rfl (hx _)
theorem zm2{x:PV}(hx:∀cs,x≠.agg cs):impA mem x=imp1 mem x:=by
 cases x<;>first|rfl|exact absurd rfl (hx _)
theorem zmg{x:PV}(hx:∀cs,x≠.tup cs):imp mem x=impA mem x:=by
 cases x<;>first|rfl|exact absurd rfl (hx _)
structure Free(G:Gh)(mem:List Blk)(us:List (Nat×Nat)):Prop where
nodup:(us.map (·.1)).Nodup
free:∀u∈us,¬G.T u.1/\¬Own G mem u.1
structure Imp(G:Gh)(w:World)(mem:List Blk)(G':Gh)(mem':List Blk)(us:List (Nat×Nat)):Prop where
good:Good G' w mem'
S:G'.S=G.S
T:G'.T=G.T
len:mem.length<=mem'.length
ids:∀b,b<mem.length->G'.ids b=G.ids b
old:∀b,b<mem.length->mem'[b]?=mem[b]?
own:∀c,Own G' mem' c->Own G mem c\/c∈us.map (·.1)
theorem Imp.refl(h:Good G w mem):Imp G w mem G mem []:=⟨h,rfl,rfl,L'l _,fun _ _=>rfl,fun _ _=>rfl,fun _ h=>.inl h⟩
theorem Imp.le{G':Gh}{mem':List Blk}{us:List (Nat×Nat)}(hG:Good G w mem)(h:Imp G w mem G' mem' us):Le G w G' w:=
⟨fun c hc=>by rw[h.S];exact hc,fun c hc=>by rw[h.T];exact hc,hG.ST,fun _ _=>rfl,fun b p hp=>(h.ids b (hG.bnd b p hp)).trans hp⟩
theorem Imp.trans{G1 G2:Gh}{m1 m2:List Blk}{u1 u2:List (Nat×Nat)}(h:Imp G w mem G1 m1 u1)(h':Imp G1 w m1 G2 m2 u2):Imp G w mem G2 m2 (u1++u2):=by
 refine⟨h'.good,h'.S.trans h.S,h'.T.trans h.T,Nat.le_trans h.len h'.len,fun b hb=>(h'.ids b (L'i hb h.len)).trans (h.ids b hb),fun b hb=>(h'.old b (L'i hb h.len)).trans (h.old b hb),?_⟩
 intro c hc
 rw[M'r,L'j]
 rcases h'.own c hc with hc|hc
 ·rcases h.own c hc with hc|hc
  ·exact .inl hc
  ·exact .inr (.inl hc)
 ·exact .inr (.inr hc)
theorem Free.left{u1 u2:List (Nat×Nat)}(h:Free G mem (u1++u2)):Free G mem u1:=by
 refine⟨?_,fun u hu=>h.free u (List.mem_append_left _ hu)⟩
 have:=h.nodup
 rw[M'r,M't]at this
 exact this.1
theorem Free.right{G1:Gh}{m1:List Blk}{u1 u2:List (Nat×Nat)}(h:Free G mem (u1++u2))(hi:Imp G w mem G1 m1 u1):Free G1 m1 u2:=by
 have hn:=h.nodup
 rw[M'r,M't]at hn
 refine⟨hn.2.1,fun u hu=>?_⟩
 obtain⟨f1,f2⟩:=h.free u (List.mem_append_right _ hu)
 refine⟨by rw[hi.T];exact f1,fun ho=>?_⟩
 rcases hi.own _ ho with ho|ho
 ·exact f2 ho
 ·exact hn.2.2 _ ho _ (M's.2 ⟨u,hu,rfl⟩) rfl
theorem RpU1.mono{G':Gh}{x:PV}{v:Value}{us:List (Nat×Nat)}(hl:Le G w G' w)(h:RpU1 G w x v us):RpU1 G' w x v us:=by
 cases x
 case un t fl sz es=>
  obtain⟨c,cap,A,h1,h2,h3,h4⟩:=h
  exact⟨c,cap,A,h1,h2,h3,h4.mono hl (fun _=>rfl) rfl⟩
 case unn=>exact h
 all_goals exact⟨h.1,Rp.mono hl h.2⟩
theorem RpU1L.mono{G':Gh}(hl:Le G w G' w):∀{xs:List PV}{vs:List Value}{us:List (Nat×Nat)},RpU1L G w xs vs us->RpU1L G' w xs vs us
 |[],_,_,h=>h
 |x::xs,vs,us,h=>by
  obtain⟨v,rest,u1,u2,h1,h2,h3,h4⟩:=h
  exact⟨v,rest,u1,u2,h1,h2,h3.mono hl,RpU1L.mono hl h4⟩
theorem RpUA.mono{G':Gh}{x:PV}{v:Value}{us:List (Nat×Nat)}(hl:Le G w G' w)(h:RpUA G w x v us):RpUA G' w x v us:=by
 by_cases hx:∃cs,x=.agg cs
 ·obtain⟨cs,rfl⟩:=hx;obtain⟨vs,h1,h2⟩:=h;exact⟨vs,h1,h2.mono hl⟩
 ·have hx:∀cs,x≠.agg cs:=fun cs e=>hx ⟨cs,e⟩
  rw[z0c hx]at*;exact h.mono hl
theorem RpUAL.mono{G':Gh}(hl:Le G w G' w):∀{xs:List PV}{vs:List Value}{us:List (Nat×Nat)},RpUAL G w xs vs us->RpUAL G' w xs vs us
 |[],_,_,h=>h
 |x::xs,vs,us,h=>by
  obtain⟨v,rest,u1,u2,h1,h2,h3,h4⟩:=h
  exact⟨v,rest,u1,u2,h1,h2,h3.mono hl,RpUAL.mono hl h4⟩
theorem zlq(hG:Good G w mem){x:PV}{v:Value}{us:List (Nat×Nat)}(hx:RpU1 G w x v us)(hf:Free G mem us) :
  ∃G',Imp G w mem G' (imp1 mem x).2 us/\Rp G' w (imp1 mem x).1 v:=by
 cases x
 case un t fl sz es=>
  obtain⟨c,cap,A,rfl,rfl,hA,h3⟩:=hx
  by_cases h0:es=[]
  ·subst h0
   have hcap:cap=0:=by
    rcases h3 with h|⟨h,_⟩
    ·exact h.2
    ·exact(h rfl).elim
   subst hcap
   obtain⟨g1,g2⟩:=hG.push (c:=w.heap.size) (cp:=0) (k:=.row t fl sz []) (Grew.refl w) (L'l _) (fun _=>.inl ⟨rfl,rfl⟩)
   refine⟨_,⟨g1,rfl,rfl,by simp[imp1],fun b hb=>Gh.bind_ne (by omega),fun b hb=>L'm hb,fun c hc=>?_⟩,w.heap.size,0,0,Gh.bind_same,rfl,by simp,A,rfl,.inl rfl⟩
   left
   rcases hc with⟨b,k,cp,h1,h2,h3⟩|hc
   case inr=>exact .inr hc
   left
   have h1:(mem++[Blk.row t fl sz []])[b]?=some k:=h1
   have hlt:=(L'b.1 h1).1
   rw[M'u]at h1
   split at h1
   ·rename_i hb
    exact⟨b,k,cp,h1,h2,by rwa [Gh.bind_ne (by omega)]at h3⟩
   ·have:k=.row t fl sz []:=by
     have:=M'v h1
     simpa using this
    subst this;cases h2
  have he:es.isEmpty=false:=by simpa using h0
  rw[he]at hf ⊢
  simp only[M'w,if_false]at hf ⊢
  obtain rfl:=hA.resolve_left h0
  obtain⟨f1,f2⟩:=hf.free (c,cap) (by simp)
  obtain⟨e1,e2⟩:=hG.extend [.row t fl sz es]
  have hnone:=hG.none (L'l mem.length)
  have hown:∀c,Own G (mem++[Blk.row t fl sz es]) c->Own G mem c:=by
   rintro c (⟨b,k,cp,h1,h2,h3⟩|hc)
   ·exact .inl ⟨b,k,cp,by rwa [L'm (hG.bnd b _ h3)]at h1,h2,h3⟩
   ·exact .inr hc
  obtain⟨g1,g2,g3⟩:=e1.name' (b:=mem.length) (c:=c) (cp:=cap) (k:=.row t fl sz es) (by simp) hnone (Grew.refl w) f1 (fun ho=>f2 (hown c ho)) (fun hl=>h3.mono hl (fun _=>rfl) rfl)
  refine⟨_,⟨g1,rfl,rfl,by simp[imp1],fun b hb=>Gh.bind_ne (by omega),fun b hb=>L'm hb,?_⟩,c,cap,cap,Gh.bind_same,by simp,z177 h3,_,rfl,.inr (by simp)⟩
  ·intro c' hc'
   rcases g2 c' hc' with hc'|rfl
   ·exact .inl (hown c' hc')
   ·exact .inr (by simp)
 case unn t sz es=>
  obtain⟨c,cap,A,f,rfl,rfl,hA,hz,h3⟩:=hx
  by_cases h0:es=[]
  ·subst h0
   obtain rfl:=hz rfl
   obtain⟨g1,g2⟩:=hG.push (c:=w.heap.size) (cp:=0) (k:=.lin t sz []) (Grew.refl w) (L'l _) (fun _=>.inl ⟨rfl,rfl⟩)
   refine⟨_,⟨g1,rfl,rfl,by simp[imp1],fun b hb=>Gh.bind_ne (by omega),fun b hb=>L'm hb,fun c hc=>?_⟩,w.heap.size,0,0,Gh.bind_same,rfl,by simp,A,rfl,.inl rfl⟩
   left
   rcases hc with⟨b,k,cp,h1,h2,h3⟩|hc
   case inr=>exact .inr hc
   left
   have h1:(mem++[Blk.lin t sz []])[b]?=some k:=h1
   have hlt:=(L'b.1 h1).1
   rw[M'u]at h1
   split at h1
   ·rename_i hb
    exact⟨b,k,cp,h1,h2,by rwa [Gh.bind_ne (by omega)]at h3⟩
   ·have:k=.lin t sz []:=by
     have:=M'v h1
     simpa using this
    subst this;cases h2
  have he:es.isEmpty=false:=by simpa using h0
  rw[he]at hf ⊢
  simp only[M'w,if_false]at hf ⊢
  obtain rfl:=hA.resolve_left h0
  obtain⟨cs,vs,k1,k2,k3,k4,k5,k6,k7⟩:=h3.resolve_left h0
  have hnd:=hf.nodup
  have hmap:∀f:List Nat,(f.map fun x=>(x,0)).map Prod.fst=f:=fun f=>by rw[List.map_map];exact List.map_id'' (fun _=>rfl) f
  rw[M'n,hmap,List.nodup_cons]at hnd
  obtain⟨f1,f2⟩:=hf.free (c,cap) (by simp)
  have ff:∀x∈f,x<w.heap.size/\¬G.T x/\¬Own G mem x:=fun x hx=>⟨k7 x hx,hf.free (x,0) (by simp[hx])⟩
  obtain⟨q1,q2⟩:=hG.giveL (c:=c) ff
  obtain⟨e1,e2⟩:=q1.extend [.lin t sz es]
  have hnone:=q1.none (L'l mem.length)
  have hown:∀c',Own (G.give c f) (mem++[Blk.lin t sz es]) c'->Own G mem c'\/c'∈f:=by
   rintro c' (⟨b,k,cp,h1,h2,h3⟩|hc)
   ·exact .inl (.inl ⟨b,k,cp,by rwa [L'm (hG.bnd b _ h3)]at h1,h2,h3⟩)
   ·exact q2 c' (.inr hc)
  obtain⟨g1,g2,g3⟩:=e1.name' (b:=mem.length) (c:=c) (cp:=cap) (k:=.lin t sz es) (by simp) hnone (Grew.refl w) f1 (fun ho=>(hown c ho).elim f2 hnd.1)
   (fun hl=>.inr ⟨h0,cs,vs,f,k1,k2,k3,k4,k5,k6,hnd.2,fun x hx=>by show(if x∈f then some c else G.X x)=some c;rw[if_pos hx]⟩)
  refine⟨_,⟨g1,rfl,rfl,by simp[imp1],fun b hb=>Gh.bind_ne (by omega),fun b hb=>L'm hb,?_⟩,c,cap,cap,Gh.bind_same,by simp,k3,_,rfl,.inr (by simp)⟩
  intro c' hc'
  rcases g2 c' hc' with hc'|rfl
  ·rcases hown c' hc' with hc'|hc'
   ·exact .inl hc'
   ·exact .inr (by rw[M'n,hmap];exact M'x _ hc')
  ·exact .inr (by simp)
 all_goals
  obtain⟨rfl,h⟩:=hx
  exact⟨G,.refl hG,h⟩
theorem zmc:∀{xs:List PV} {vs:List Value} {us:List (Nat×Nat)} {G:Gh} {mem:List Blk},Good G w mem->RpU1L G w xs vs us->Free G mem us ->
  ∃G',Imp G w mem G' (impL mem xs).2 us/\RpL G' w (impL mem xs).1 vs
 |[],vs,us,G,mem,hG,h,_=>by
  obtain⟨rfl,rfl⟩:=h
  exact⟨G,.refl hG,rfl⟩
 |x::xs,vs,us,G,mem,hG,h,hf=>by
  obtain⟨v,rest,u1,u2,rfl,rfl,h3,h4⟩:=h
  obtain⟨G1,i1,r1⟩:=zlq hG h3 hf.left
  obtain⟨G2,i2,r2⟩:=zmc i1.good (h4.mono (i1.le hG)) (hf.right i1)
  exact⟨G2,i1.trans i2,v,rest,rfl,Rp.mono (i2.le i1.good) r1,r2⟩
theorem zm4(hG:Good G w mem){x:PV}{v:Value}{us:List (Nat×Nat)}(hx:RpUA G w x v us)(hf:Free G mem us) :
  ∃G',Imp G w mem G' (impA mem x).2 us/\Rp G' w (impA mem x).1 v:=by
 by_cases hq:∃cs,x=.agg cs
 ·obtain⟨cs,rfl⟩:=hq
  obtain⟨vs,rfl,h⟩:=hx
  obtain⟨G',i,r⟩:=zmc hG h hf
  exact⟨G',i,vs,rfl,r⟩
 ·have hq:∀cs,x≠.agg cs:=fun cs e=>hq ⟨cs,e⟩
  rw[zm2 hq];exact zlq hG ((z0c hq).1 hx) hf
theorem zly:∀{xs:List PV} {vs:List Value} {us:List (Nat×Nat)} {G:Gh} {mem:List Blk},Good G w mem->RpUAL G w xs vs us->Free G mem us ->
  ∃G',Imp G w mem G' (impAL mem xs).2 us/\RpL G' w (impAL mem xs).1 vs
 |[],vs,us,G,mem,hG,h,_=>by
  obtain⟨rfl,rfl⟩:=h
  exact⟨G,.refl hG,rfl⟩
 |x::xs,vs,us,G,mem,hG,h,hf=>by
  obtain⟨v,rest,u1,u2,rfl,rfl,h3,h4⟩:=h
  obtain⟨G1,i1,r1⟩:=zm4 hG h3 hf.left
  obtain⟨G2,i2,r2⟩:=zly i1.good (h4.mono (i1.le hG)) (hf.right i1)
  exact⟨G2,i1.trans i2,v,rest,rfl,Rp.mono (i2.le i1.good) r1,r2⟩
theorem zmi(hG:Good G w mem){x:PV}{v:Value}{us:List (Nat×Nat)}(hx:RpU G w x v us)(hf:Free G mem us) :
  ∃G',Imp G w mem G' (imp mem x).2 us/\Rp G' w (imp mem x).1 v:=by
 by_cases hq:∃cs,x=.tup cs
 ·obtain⟨cs,rfl⟩:=hq
  obtain⟨vs,rfl,h⟩:=hx
  obtain⟨G',i,r⟩:=zly hG h hf
  exact⟨G',i,vs,rfl,r⟩
 ·have hq:∀cs,x≠.tup cs:=fun cs e=>hq ⟨cs,e⟩
  rw[zmg hq];exact zm4 hG ((z0d hq).1 hx) hf
/-! ### Results under what another knows -/
theorem RpEs.flat{S S':Nat->Prop}{sz:Nat}:∀{es:List PV}{vs:List Value},RpEs S w true sz es vs->RpEs S' w true sz es vs
 |[],_,h=>h
 |x::xs,vs,h=>by
  obtain⟨v,rest,h1,h2,h3,h4⟩:=h
  refine⟨v,rest,h1,?_,h3,h4.flat⟩
  have hall:∀c∈x.cells,c.scalar=true:=by
   intro c hc
   simp only[okE,Bool.and_eq_true,List.all_eq_true]at h3
   simpa using(h3.2 c hc).2
  have one:∀(y:PV)(u:Value),y.scalar=true->RpI S w y u->RpI S' w y u:=by
   intro y u hy hu
   cases y<;>simp[PV.scalar]at hy<;>exact hu
  cases x
  case agg cs=>
   obtain⟨us,rfl,hr⟩:=h2
   refine⟨us,rfl,?_⟩
   have:∀(cs:List PV)(us:List Value),(∀c∈cs,c.scalar=true)->RpIL S w cs us->RpIL S' w cs us:=by
    intro cs
    induction cs with
    |nil=>intro us _ h;exact h
    |cons c cs ih=>
     intro us hc h
     obtain⟨v,rest,h1,h2,h3⟩:=h
     exact⟨v,rest,h1,one c v (hc c (by simp)) h2,ih rest (fun d hd=>hc d (by simp[hd])) h3⟩
   exact this cs us hall hr
  all_goals exact one _ _ (hall _ (by simp[PV.cells])) h2
theorem RpU1.to{G':Gh}{x:PV}{v:Value}{us:List (Nat×Nat)}(hx:res1 x=true)(ha:z24 x=false\/∀c,G.S c->G'.S c)(h:RpU1 G w x v us):RpU1 G' w x v us:=by
 cases x<;>simp[res1]at hx
 case un t fl sz es=>
  obtain⟨c,cap,A,h1,h2,h3,h|⟨h0,tt,cs,vs,k1,k2,k3,k4,k5⟩⟩:=h
  ·exact⟨c,cap,A,h1,h2,h3,.inl h⟩
  refine⟨c,cap,A,h1,h2,h3,.inr ⟨h0,tt,cs,vs,k1,k2,k3,?_,k5⟩⟩
  rcases ha with ha|ha
  ·simp[z24]at ha;subst ha;exact k4.flat
  ·exact RpEs.mono (fun c hc=>⟨ha c hc,rfl⟩) _ _ _ _ k4
 case unn=>exact h
 case sl=>
  refine⟨h.1,?_⟩
  rcases ha with ha|ha
  ·simp[z24]at ha
   subst ha
   obtain⟨A,cap,vs,e1,e2,e3,e4,_⟩:=h.2
   exact⟨A,cap,vs,e1,e2,e3,e4,.inl rfl⟩
  ·exact RpI.mono (fun c hc=>⟨ha c hc,rfl⟩) _ _ h.2
 all_goals exact h
theorem RpU1L.to{G':Gh}:∀{xs:List PV} {vs:List Value} {us:List (Nat×Nat)},(∀x∈xs,res1 x=true)->((∀x∈xs,z24 x=false)\/∀c,G.S c->G'.S c)->RpU1L G w xs vs us->RpU1L G' w xs vs us
 |[],_,_,_,_,h=>h
 |x::xs,vs,us,hx,ha,h=>by
  obtain⟨v,rest,u1,u2,h1,h2,h3,h4⟩:=h
  exact⟨v,rest,u1,u2,h1,h2,h3.to (hx x (by simp)) (ha.imp (fun h=>h x (by simp)) id),h4.to (fun y hy=>hx y (by simp[hy])) (ha.imp (fun h y hy=>h y (by simp[hy])) id)⟩
theorem RpUA.to{G':Gh}{x:PV}{v:Value}{us:List (Nat×Nat)}(hx:resA x=true)(ha:z2c x=false\/∀c,G.S c->G'.S c)(h:RpUA G w x v us):RpUA G' w x v us:=by
 by_cases hq:∃cs,x=.agg cs
 ·obtain⟨cs,rfl⟩:=hq
  obtain⟨vs,h1,h2⟩:=h
  refine⟨vs,h1,h2.to (by simpa [resA]using hx) (ha.imp (fun h=>?_) id)⟩
  intro x hx'
  simp only[z2c,M'y]at h
  simpa using h x hx'
 ·have hq:∀cs,x≠.agg cs:=fun cs e=>hq ⟨cs,e⟩
  rw[z0c hq]at *
  refine h.to ?_ (ha.imp (fun h=>?_) id)
  ·cases x<;>first|exact hx|exact absurd rfl (hq _)
  ·cases x<;>first|exact h|exact absurd rfl (hq _)
theorem RpUAL.to{G':Gh}:∀{xs:List PV} {vs:List Value} {us:List (Nat×Nat)},(∀x∈xs,resA x=true)->((∀x∈xs,z2c x=false)\/∀c,G.S c->G'.S c)->RpUAL G w xs vs us->RpUAL G' w xs vs us
 |[],_,_,_,_,h=>h
 |x::xs,vs,us,hx,ha,h=>by
  obtain⟨v,rest,u1,u2,h1,h2,h3,h4⟩:=h
  exact⟨v,rest,u1,u2,h1,h2,h3.to (hx x (by simp)) (ha.imp (fun h=>h x (by simp)) id),h4.to (fun y hy=>hx y (by simp[hy])) (ha.imp (fun h y hy=>h y (by simp[hy])) id)⟩
theorem RpU.to{G':Gh}{x:PV}{v:Value}{us:List (Nat×Nat)}(hx:resOk x=true)(ha:alias x=false\/∀c,G.S c->G'.S c)(h:RpU G w x v us):RpU G' w x v us:=by
 by_cases hq:∃cs,x=.tup cs
 ·obtain⟨cs,rfl⟩:=hq
  obtain⟨vs,h1,h2⟩:=h
  refine⟨vs,h1,h2.to (by simpa [resOk]using hx) (ha.imp (fun h=>?_) id)⟩
  intro x hx'
  simp only[alias,M'y]at h
  simpa using h x hx'
 ·have hq:∀cs,x≠.tup cs:=fun cs e=>hq ⟨cs,e⟩
  rw[z0d hq]at *
  refine h.to ?_ (ha.imp (fun h=>?_) id)
  ·cases x<;>first|exact hx|exact absurd rfl (hq _)
  ·cases x<;>first|exact h|exact absurd rfl (hq _)
/-! ### Fresh rows not told as one's own -/
def Gh.frzs(G:Gh)(us:List (Nat×Nat)):Gh:={G with S:=fun c=>G.S c\/c∈us.map (·.1),T:=fun c=>G.T c\/c∈us.map (·.1)}
theorem RpU1.lt{x:PV}{v:Value}{us:List (Nat×Nat)}(h:RpU1 G w x v us):∀u∈us,u.1<w.heap.size:=by
 cases x
 case un t fl sz es=>
  obtain⟨c,cap,A,rfl,h2,_,h3⟩:=h
  split
  ·simp
  ·rename_i h0
   simp only[List.mem_singleton,forall_eq]
   exact h3.lt (by simpa [Blk.own]using h0)
 case unn t sz es=>
  obtain⟨c,cap,A,f,rfl,h2,_,_,h3⟩:=h
  split
  ·simp
  ·rename_i h0
   obtain⟨cs,vs,k1,k2,k3,k4,k5,k6,k7⟩:=h3.resolve_left (by simpa using h0)
   intro u hu
   rcases List.mem_cons.1 hu with rfl| hu
   ·exact(Array.getElem?_eq_some_iff.1 k1).1
   ·obtain⟨x,hx,rfl⟩:=M's.1 hu
    exact k7 x hx
 all_goals
  obtain⟨rfl,_⟩:=h
  simp
theorem RpU1L.lt:∀{xs:List PV}{vs:List Value}{us:List (Nat×Nat)},RpU1L G w xs vs us->∀u∈us,u.1<w.heap.size
 |[],_,_,h=>by obtain⟨rfl,rfl⟩:=h;simp
 |x::xs,vs,us,h=>by
  obtain⟨v,rest,u1,u2,h1,rfl,h3,h4⟩:=h
  intro u hu
  rcases L'j.1 hu with hu|hu
  ·exact h3.lt u hu
  ·exact h4.lt u hu
theorem RpUA.lt{x:PV}{v:Value}{us:List (Nat×Nat)}(h:RpUA G w x v us):∀u∈us,u.1<w.heap.size:=by
 by_cases hq:∃cs,x=.agg cs
 ·obtain⟨cs,rfl⟩:=hq;obtain⟨vs,h1,h2⟩:=h;exact h2.lt
 ·exact RpU1.lt ((z0c (fun cs e=>hq ⟨cs,e⟩)).1 h)
theorem RpUAL.lt:∀{xs:List PV}{vs:List Value}{us:List (Nat×Nat)},RpUAL G w xs vs us->∀u∈us,u.1<w.heap.size
 |[],_,_,h=>by obtain⟨rfl,rfl⟩:=h;simp
 |x::xs,vs,us,h=>by
  obtain⟨v,rest,u1,u2,h1,rfl,h3,h4⟩:=h
  intro u hu
  rcases L'j.1 hu with hu|hu
  ·exact h3.lt u hu
  ·exact h4.lt u hu
theorem RpU.lt{x:PV}{v:Value}{us:List (Nat×Nat)}(h:RpU G w x v us):∀u∈us,u.1<w.heap.size:=by
 by_cases hq:∃cs,x=.tup cs
 ·obtain⟨cs,rfl⟩:=hq;obtain⟨vs,h1,h2⟩:=h;exact h2.lt
 ·exact RpUA.lt ((z0d (fun cs e=>hq ⟨cs,e⟩)).1 h)
theorem zi4{x:PV}{v:Value}{us:List (Nat×Nat)}(h:RpU1 G w x v us)(hG':∀c,G.S c->G.T c){G':Gh}(hS:∀c,G.S c\/c∈us.map (·.1)->G'.S c)(hT:∀c,G.T c->G'.T c)(hi:G'.ids=G.ids):Rp G' w (frz1 x) v:=by
 have hl:Le G w G' w:=⟨fun c hc=>hS c (.inl hc),hT,hG',fun _ _=>rfl,fun b p hp=>by rw[hi];exact hp⟩
 cases x
 case un t fl sz es=>
  obtain⟨c,cap,A,rfl,rfl,hA,⟨rfl,hz⟩|⟨h0,tt,cs,vs,k1,k2,k3,k4,k5⟩⟩:=h
  ·exact⟨A,cap,[],rfl,by simp,rfl,fun _=>hz,.inl rfl⟩
  obtain rfl:=hA.resolve_left h0
  exact⟨_,cap,vs,rfl,k3,RpEs.mono hl.I _ _ _ _ k4,fun h=>(by cases h),.inr ⟨c,0,rfl,hS c (.inr (by simp[h0])),.of_row k1 0 _ (by simpa using k5)⟩⟩
 case unn t sz es=>
  obtain⟨c,cap,A,f,rfl,rfl,hA,hz,h3⟩:=h
  by_cases h0:es=[]
  ·subst h0
   exact⟨A,cap,[],rfl,by simp,rfl,fun _=>hz rfl,.inl rfl⟩
  obtain rfl:=hA.resolve_left h0
  obtain⟨cs,vs,k1,k2,k3,k4,k5,k6,k7⟩:=h3.resolve_left h0
  have hin:∀x∈f,G'.S x:=fun x hx=>hS x (.inr (by
   rw[if_neg (by simpa using h0),M'n,List.map_map]
   exact M'x _ (M's.2 ⟨x,hx,rfl⟩)))
  exact⟨_,cap,vs,rfl,k3,(k5.toI hin).elems k4,fun h=>(by cases h),.inr ⟨c,0,rfl,hS c (.inr (by simp[h0])),.of_row k1 0 _ (by simpa using k6)⟩⟩
 all_goals exact Rp.mono hl h.2
theorem zi3(hG':∀c,G.S c->G.T c){G':Gh}(hT:∀c,G.T c->G'.T c)(hi:G'.ids=G.ids):∀{xs:List PV}{vs:List Value}{us:List (Nat×Nat)},RpU1L G w xs vs us->(∀c,G.S c\/c∈us.map (·.1)->G'.S c)->RpL G' w (xs.map frz1) vs
 |[],_,_,h,_=>by obtain⟨rfl,rfl⟩:=h;exact rfl
 |x::xs,vs,us,h,hS=>by
  obtain⟨v,rest,u1,u2,rfl,rfl,h3,h4⟩:=h
  simp only[M'r,L'j]at hS
  exact⟨v,rest,rfl,zi4 h3 hG' (fun c hc=>hS c (hc.imp id .inl)) hT hi,zi3 hG' hT hi h4 (fun c hc=>hS c (hc.imp id .inr))⟩
theorem zi6{x:PV}{v:Value}{us:List (Nat×Nat)}(h:RpUA G w x v us)(hG':∀c,G.S c->G.T c){G':Gh}(hS:∀c,G.S c\/c∈us.map (·.1)->G'.S c)(hT:∀c,G.T c->G'.T c)(hi:G'.ids=G.ids):Rp G' w (frzA x) v:=by
 by_cases hq:∃cs,x=.agg cs
 ·obtain⟨cs,rfl⟩:=hq
  obtain⟨vs,h1,h2⟩:=h
  exact⟨vs,h1,zi3 hG' hT hi h2 hS⟩
 ·have hq:∀cs,x≠.agg cs:=fun cs e=>hq ⟨cs,e⟩
  have he:frzA x=frz1 x:=by cases x<;>first|rfl|exact absurd rfl (hq _)
  rw[he];exact zi4 ((z0c hq).1 h) hG' hS hT hi
theorem zi5(hG':∀c,G.S c->G.T c){G':Gh}(hT:∀c,G.T c->G'.T c)(hi:G'.ids=G.ids):∀{xs:List PV}{vs:List Value}{us:List (Nat×Nat)},RpUAL G w xs vs us->(∀c,G.S c\/c∈us.map (·.1)->G'.S c)->RpL G' w (xs.map frzA) vs
 |[],_,_,h,_=>by obtain⟨rfl,rfl⟩:=h;exact rfl
 |x::xs,vs,us,h,hS=>by
  obtain⟨v,rest,u1,u2,rfl,rfl,h3,h4⟩:=h
  simp only[M'r,L'j]at hS
  exact⟨v,rest,rfl,zi6 h3 hG' (fun c hc=>hS c (hc.imp id .inl)) hT hi,zi5 hG' hT hi h4 (fun c hc=>hS c (hc.imp id .inr))⟩
theorem zie{x:PV}{v:Value}{us:List (Nat×Nat)}(h:RpU G w x v us)(hG':∀c,G.S c->G.T c){G':Gh}(hS:∀c,G.S c\/c∈us.map (·.1)->G'.S c)(hT:∀c,G.T c->G'.T c)(hi:G'.ids=G.ids):Rp G' w (frz x) v:=by
 by_cases hq:∃cs,x=.tup cs
 ·obtain⟨cs,rfl⟩:=hq
  obtain⟨vs,h1,h2⟩:=h
  exact⟨vs,h1,zi5 hG' hT hi h2 hS⟩
 ·have hq:∀cs,x≠.tup cs:=fun cs e=>hq ⟨cs,e⟩
  have he:frz x=frzA x:=by cases x<;>first|rfl|exact absurd rfl (hq _)
  rw[he];exact zi6 ((z0d hq).1 h) hG' hS hT hi
end
end Go.Proofs.YtbaclnecajkknaaGreat.Pi

