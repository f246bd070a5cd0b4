/- Pi: some of the blocks under new names; calls that may write. -/
import Derived.Test.YtbaclnecajkknaaGreatPiCalv
open List renaming mem_of_getElem?->M'v,getElem?_eq_some_iff->L'b,all_eq_true->L'h,getElem?_eq_getElem->L'v,getElem_inj->N'0,mem_append->L'j,getElem?_append_left->L'm,getElem?_mapIdx->N'1
open Option renaming bind_eq_some_iff->L's,bind_some->L't
namespace Go.Proofs.YtbaclnecajkknaaGreat.Pi
open Go
set_option linter.all false

def Gh.sel(G:Gh)(I:List Nat):Gh:={G with ids:=fun j=>(I[j]?).bind G.ids}
section
variable {P:Program}{G:Gh}{w w':World}{mem:List Blk}
theorem Blk.own_ren(f:Nat->Nat)(k:Blk):(k.ren f).own=k.own:=by cases k<;>rfl
theorem zw1(f:Nat->Nat){cs:List PV}(h:zw0 cs=true):zw0 (renL f cs)=true:=by
 simp only[zw0,L'h]at *
 exact z154 f cs h
theorem BlkOk.ren{G':Gh}(f:Nat->Nat)(hS:∀c,G.S c->G'.S c)(hT:∀c,G.T c->G'.T c){c cp:Nat}{k:Blk}(hi:∀b∈k.refs,∀p,G.ids b=some p->G'.ids (f b)=some p)(hX:k.isLin=true->k.own=true->∀x,G.X x=some c->G'.X x=some c)(h:BlkOk G w c cp k):BlkOk G' w c cp (k.ren f):=by
 cases k
 case lin t sz es=>
  rcases h with h|⟨h0,cs,vs,g,h1,h2,h3,h4,h5,h6,h7,h8⟩
  ·exact .inl h
  ·exact .inr ⟨h0,cs,vs,g,h1,h2,h3,h4,h5,h6,h7,fun x hx=>hX rfl (z100 h0) x (h8 x hx)⟩
 case hol t sz es i off=>
  obtain⟨q1,q2,cs,v0,vs,g,h1,h2,h3,h4,h5,h6,h7,h8⟩:=h
  exact⟨q1,q2,cs,v0,vs,g,h1,h2,h3,h4,h5,h6,h7,fun x hx=>hX rfl rfl x (h8 x hx)⟩
 case que t sz es=>
  obtain⟨h0,o,n,tt,cs,vs,e,h1,h2,h3,h4,h5⟩:=h
  exact⟨h0,o,n,tt,cs,vs,e,h1,h2,h3,RpEs.mono (fun c hc=>⟨hS c hc,rfl⟩) true sz es vs h4,h5⟩
 case dead=>trivial
 case row t fl sz es=>
  rcases h with h|⟨h0,tt,cs,vs,h1,h2,h3,h4,h5⟩
  ·exact .inl h
  ·exact .inr ⟨h0,tt,cs,vs,h1,h2,h3,RpEs.mono (fun c hc=>⟨hS c hc,rfl⟩) fl sz es vs h4,h5⟩
 case fro fl sz es=>
  rcases h with h|⟨h1,h2,vs,h3,h4⟩
  ·exact .inl h
  exact .inr ⟨hS c h1,h2,vs,RpEs.mono (fun c hc=>⟨hS c hc,rfl⟩) fl sz es vs h3,h4⟩
 case box t cells=>
  obtain⟨cs,h1,h2,h3⟩:=h
  exact⟨cs,h1,RpL.ren f (fun c hc=>⟨hS c hc,rfl⟩) (fun c hc=>⟨hT c hc,rfl⟩) cells cs.toList hi h2,zw1 f h3⟩
theorem zla{I:List Nat}{b:Nat}(h:b∈I):I[I.idxOf b]?=some b:=by
 rw[L'v (List.idxOf_lt_length_iff.2 h)]
 simp
theorem z198{I:List Nat}{M:List Blk}(h:select I mem=some M):I.Nodup/\(∀b∈I,∃k,mem[b]?=some k/\∀r∈k.refs,r∈I)/\M.length=I.length /\
  ∀(j b:Nat)(k:Blk),I[j]?=some b->mem[b]?=some k->M[j]?=some (k.ren I.idxOf):=by
 unfold select at h
 split at h
 case isFalse=>cases h
 rename_i hc
 cases h
 simp only[Bool.and_eq_true,decide_eq_true_eq,L'h]at hc
 refine⟨hc.1,fun b hb=>?_,by simp,fun j b k hj hk=>?_⟩
 ·have:=hc.2 b hb
  split at this
  ·rename_i k hk
   refine⟨k,hk,fun r hr=>?_⟩
   rw[L'h]at this
   simpa using this r hr
  ·cases this
 ·have hjl:=(L'b.1 hj)
  obtain⟨hj1,hj2⟩:=hjl
  rw[List.getElem?_map,hj]
  simp[List.getD,hk]
theorem z196{I:List Nat}{M:List Blk}(h:select I mem=some M){c:Nat}(ho:Top (G.sel I) M c):∃b k cp,b∈I/\mem[b]?=some k/\k.own=true/\G.ids b=some (c,cp):=by
 obtain⟨h1,h2,h3,h4⟩:=z198 h
 obtain⟨j,k,cp,e1,e2,e3⟩:=ho
 simp only[Gh.sel,L's]at e3
 obtain⟨b,e4,e5⟩:=e3
 obtain⟨k',e6,_⟩:=h2 b (M'v e4)
 have e7:=h4 j b k' e4 e6
 rw[e1]at e7;cases e7
 rw[Blk.own_ren]at e2
 exact⟨b,k',cp,M'v e4,e6,e2,e5⟩
theorem Good.select(hG:Good G w mem){I:List Nat}{M:List Blk}(h:select I mem=some M):Good (G.sel I) w M:=by
 obtain⟨h1,h2,h3,h4⟩:=z198 h
 refine⟨fun j p hp=>?_,fun j k c cp hk hp=>?_,hG.ST,hG.lt,fun c ho=>?_,fun j j' k k' c cp cp' e1 e2 e3 e4 e5 e6=>?_,hG.xlt,fun c d hd ht=>?_⟩
 ·simp only[Gh.sel,L's]at hp
  obtain⟨b,e4,e5⟩:=hp
  rw[h3];exact(L'b.1 e4).1
 ·simp only[Gh.sel,L's]at hp
  obtain⟨b,e4,e5⟩:=hp
  obtain⟨k',e6,e7⟩:=h2 b (M'v e4)
  have e8:=h4 j b k' e4 e6
  rw[hk]at e8;cases e8
  refine BlkOk.ren (G:=G) (G':=G.sel I) I.idxOf (fun _ h=>h) (fun _ h=>h) (fun r hr p hp=>?_) (fun _ _ _ h=>h) (hG.blk b k' c cp e6 e5)
  simp only[Gh.sel,zla (e7 r hr),L't]
  exact hp
 ·rcases ho with ho|ho
  ·obtain⟨b,k,cp,_,e2,e3,e4⟩:=z196 h ho
   exact hG.apart c (.inl ⟨b,k,cp,e2,e3,e4⟩)
  ·exact hG.apart c (.inr ho)
 ·simp only[Gh.sel,L's]at e5 e6
  obtain⟨b,f1,f2⟩:=e5
  obtain⟨b',f3,f4⟩:=e6
  obtain⟨q,g1,_⟩:=h2 b (M'v f1)
  obtain⟨q',g2,_⟩:=h2 b' (M'v f3)
  have g3:=h4 j b q f1 g1
  have g4:=h4 j' b' q' f3 g2
  rw[e1]at g3;cases g3
  rw[e2]at g4;cases g4
  rw[Blk.own_ren]at e3 e4
  have:=hG.inj b b' q q' c cp cp' g1 g2 e3 e4 f2 f4
  subst this
  obtain⟨l1,l2⟩:=L'b.1 f1
  obtain⟨l3,l4⟩:=L'b.1 f3
  exact(N'0 h1).1 (l2.trans l4.symm)
 ·obtain⟨b,k,cp,_,e2,e3,e4⟩:=z196 h ht
  exact hG.xap c d hd ⟨b,k,cp,e2,e3,e4⟩
def Gh.hid(G:Gh)(mem:List Blk)(I:List Nat)(x:Nat):Prop:=∃d,G.X x=some d/\¬∃b∈I,∃k cp,mem[b]?=some k/\k.own=true/\G.ids b=some (d,cp)
open Classical in
noncomputable def Gh.selX(G:Gh)(mem:List Blk)(I:List Nat):Gh:={G.sel I with X:=fun x=>if G.hid mem I x then none else G.X x}
theorem z194{I:List Nat}{x d:Nat}(h:(G.selX mem I).X x=some d):¬G.hid mem I x/\G.X x=some d:=by
 simp only[Gh.selX]at h
 split at h
 ·cases h
 ·rename_i hn;exact⟨hn,h⟩
theorem z195{I:List Nat}{x d:Nat}(h:¬G.hid mem I x)(hx:G.X x=some d):(G.selX mem I).X x=some d:=by
 simp only[Gh.selX]
 rw[if_neg h];exact hx
theorem Good.selX(hG:Good G w mem){I:List Nat}{M:List Blk}(h:Pi.select I mem=some M):Good (G.selX mem I) w M:=by
 have g:=hG.select h
 obtain⟨h1,h2,h3,h4⟩:=z198 h
 have hl:Le (G.sel I) w (G.selX mem I) w:=⟨fun _ h=>h,fun _ h=>h,g.ST,fun _ _=>rfl,fun _ _ h=>h⟩
 refine⟨g.bnd,fun j k c cp hk hp=>(g.blk j k c cp hk hp).monoX hl (fun _=>rfl) fun _ hko x hx=>⟨?_,rfl⟩,g.ST,g.lt,fun c ho=>g.apart c (ho.imp id fun⟨d,hd⟩=>⟨d,(z194 hd).2⟩),g.inj,fun c d hd=>g.xlt c d (z194 hd).2,fun c d hd ht=>g.xap c d (z194 hd).2 ht⟩
 refine z195 (fun⟨d,hd,hn⟩=>hn ?_) hx
 have hx':G.X x=some c:=hx
 rw[hx']at hd;cases hd
 have hp:(I[j]?).bind G.ids=some (c,cp):=hp
 simp only[L's]at hp
 obtain⟨b,e4,e5⟩:=hp
 obtain⟨k',e6,_⟩:=h2 b (M'v e4)
 have e7:=h4 j b k' e4 e6
 rw[hk]at e7;cases e7
 rw[Blk.own_ren]at hko
 exact⟨b,M'v e4,k',cp,e6,hko,e5⟩
theorem RpU1.ren{G':Gh}(f:Nat->Nat)(hS:∀c,G.S c->G'.S c)(hT:∀c,G.T c->G'.T c){x:PV}{v:Value}{us:List (Nat×Nat)}(hi:∀b∈x.refs,∀p,G.ids b=some p->G'.ids (f b)=some p)(h:RpU1 G w x v us):RpU1 G' w (x.ren f) v us:=by
 cases x
 case un t fl sz es=>
  obtain⟨c,cap,A,h1,h2,h3,h4⟩:=h
  exact⟨c,cap,A,h1,h2,h3,BlkOk.ren (G:=G) (G':=G') f hS hT (by simp[Blk.refs]) (fun h=>by cases h) h4⟩
 case unn=>exact h
 all_goals exact⟨h.1,Rp.ren f (fun c hc=>⟨hS c hc,rfl⟩) (fun c hc=>⟨hT c hc,rfl⟩) _ _ hi h.2⟩
theorem RpU1L.ren{G':Gh}(f:Nat->Nat)(hS:∀c,G.S c->G'.S c)(hT:∀c,G.T c->G'.T c) :
  ∀{xs:List PV}{vs:List Value}{us:List (Nat×Nat)},(∀b∈refsL xs,∀p,G.ids b=some p->G'.ids (f b)=some p)->RpU1L G w xs vs us->RpU1L G' w (renL f xs) vs us
 |[],_,_,_,h=>h
 |x::xs,vs,us,hi,h=>by
  obtain⟨v,rest,u1,u2,h1,h2,h3,h4⟩:=h
  simp only[refsL,L'j]at hi
  exact⟨v,rest,u1,u2,h1,h2,h3.ren f hS hT (fun b hb=>hi b (.inl hb)),RpU1L.ren f hS hT (fun b hb=>hi b (.inr hb)) h4⟩
theorem RpUA.ren{G':Gh}(f:Nat->Nat)(hS:∀c,G.S c->G'.S c)(hT:∀c,G.T c->G'.T c){x:PV}{v:Value}{us:List (Nat×Nat)}(hi:∀b∈x.refs,∀p,G.ids b=some p->G'.ids (f b)=some p)(h:RpUA G w x v us):RpUA G' w (x.ren f) v us:=by
 by_cases hq:∃cs,x=.agg cs
 ·obtain⟨cs,rfl⟩:=hq;obtain⟨vs,h1,h2⟩:=h;exact⟨vs,h1,h2.ren f hS hT hi⟩
 ·have hq:∀cs,x≠.agg cs:=fun cs e=>hq ⟨cs,e⟩
  have hq':∀cs,x.ren f≠.agg cs:=by intro cs;cases x<;>simp [PV.ren];exact absurd rfl (hq _)
  exact(z0c hq').2 (RpU1.ren f hS hT hi ((z0c hq).1 h))
theorem RpUAL.ren{G':Gh}(f:Nat->Nat)(hS:∀c,G.S c->G'.S c)(hT:∀c,G.T c->G'.T c) :
  ∀{xs:List PV}{vs:List Value}{us:List (Nat×Nat)},(∀b∈refsL xs,∀p,G.ids b=some p->G'.ids (f b)=some p)->RpUAL G w xs vs us->RpUAL G' w (renL f xs) vs us
 |[],_,_,_,h=>h
 |x::xs,vs,us,hi,h=>by
  obtain⟨v,rest,u1,u2,h1,h2,h3,h4⟩:=h
  simp only[refsL,L'j]at hi
  exact⟨v,rest,u1,u2,h1,h2,h3.ren f hS hT (fun b hb=>hi b (.inl hb)),RpUAL.ren f hS hT (fun b hb=>hi b (.inr hb)) h4⟩
theorem RpU.ren{G':Gh}(f:Nat->Nat)(hS:∀c,G.S c->G'.S c)(hT:∀c,G.T c->G'.T c){x:PV}{v:Value}{us:List (Nat×Nat)}(hi:∀b∈x.refs,∀p,G.ids b=some p->G'.ids (f b)=some p)(h:RpU G w x v us):RpU G' w (x.ren f) v us:=by
 by_cases hq:∃cs,x=.tup cs
 ·obtain⟨cs,rfl⟩:=hq;obtain⟨vs,h1,h2⟩:=h;exact⟨vs,h1,h2.ren f hS hT hi⟩
 ·have hq:∀cs,x≠.tup cs:=fun cs e=>hq ⟨cs,e⟩
  have hq':∀cs,x.ren f≠.tup cs:=by intro cs;cases x<;>simp [PV.ren];exact absurd rfl (hq _)
  exact(z0d hq').2 (RpUA.ren f hS hT hi ((z0d hq).1 h))
theorem z83{orc:Orc}(ho:OrcOk P orc)(hG:Good G w mem){f:FuncId}{args:List PV}{vargs:List Value}(hx:RpL G w args vargs){r:PV}{mem':List Blk}
  (h:callM orc mem f args=some (r,mem')) :
  z06 P f/\Calls P f vargs.toArray w fun e w1=>match e with| .returned v=>∃G',Good G' w1 mem'/\Ext G w mem G' w1 mem'/\Rp G' w1 r v|_=>False:=by
 simp only[callM]at h
 generalize hI:(reach mem 2 (refsL args)).eraseDups=I at h
 split at h
 case isFalse=>cases h
 rename_i hall
 simp only[L's]at h
 obtain⟨M,h1,⟨r0,M1⟩,h2,h3⟩:=h
 split at h3
 case isFalse=>cases h3
 rename_i hlen
 simp only at hlen h3
 obtain⟨s1,s2,s3,s4⟩:=z198 h1
 have hall:∀b∈refsL args,b∈I:=by
  intro b hb
  rw[L'h]at hall
  simpa using hall b hb
 have hIn:∀b∈I,b<mem.length/\∃p,G.ids b=some p:=by
  intro b hb
  obtain⟨k,hk,_⟩:=s2 b hb
  refine⟨(L'b.1 hk).1,?_⟩
  rw[<-hI,List.mem_eraseDups]at hb
  exact z13w hG 2 _ (fun b hb=>RpL.named args vargs hx b hb) b hb
 have hx0:RpL (G.selX mem I) w (renL I.idxOf args) vargs:=RpL.ren (G:=G) (G':=G.selX mem I) (w:=w) (w':=w) I.idxOf (fun c hc=>⟨hc,rfl⟩) (fun c hc=>⟨hc,rfl⟩) args vargs (fun b hb p hp=>by
  simp only[Gh.selX,Gh.sel,zla (hall b hb),L't];exact hp) hx
 obtain⟨hent,hcall⟩:=ho _ _ _ _ _ h2
 refine⟨hent,Calls.mono (hcall _ w vargs (hG.selX h1) hx0) ?_⟩
 intro e w1 he
 cases e with
 |panicked _=>exact he
 |outgrown=>exact he
 |returned v=>
  obtain⟨G1,us,p1,p2,p3,p4,p5,p6,p7⟩:=he
  have own0:∀c,Own (G.selX mem I) M c->Own G mem c:=fun c hc=>by
   rcases hc with hc|⟨d,hd⟩
   ·obtain⟨b,k,cp,_,e2,e3,e4⟩:=z196 h1 hc
    exact .inl ⟨b,k,cp,e2,e3,e4⟩
   ·exact .inr ⟨d,(z194 hd).2⟩
  have own0':∀(b:Nat) (k:Blk) (c cp:Nat),b∉I->mem[b]?=some k->k.own=true->G.ids b=some (c,cp)->¬Own (G.selX mem I) M c:=by
   intro b k c cp hb hk hko hi hc
   rcases hc with hc|⟨d,hd⟩
   ·obtain⟨b',k',cp',e1,e2,e3,e4⟩:=z196 h1 hc
    have:=hG.inj b b' k k' c cp cp' hk e2 hko e3 hi e4
    exact hb (this▸e1)
   ·exact hG.xap c d (z194 hd).2 ⟨b,k,cp,hk,hko,hi⟩
  have hidO:∀x,G.hid mem I x->¬Own (G.selX mem I) M x:=by
   rintro x ⟨d,hd,hn⟩ (hc|⟨d',hd'⟩)
   ·obtain⟨b',k',cp',e1,e2,e3,e4⟩:=z196 h1 hc
    exact hG.xap x d hd ⟨b',k',cp',e2,e3,e4⟩
   ·exact(z194 hd').1 ⟨d,hd,hn⟩
  have hidlt:∀x,G.hid mem I x->x<w.heap.size:=fun x ⟨d,hd,_⟩=>hG.xlt x d hd
  have hidN:∀x,G.hid mem I x->¬Own G1 M1 x:=by
   intro x hx ho
   rcases p2.own x ho with ho|ho
   ·exact hidO x hx ho
   ·have:=hidlt x hx;omega
  generalize hback:(fun j=>(I[j]?).getD (mem.length+(j-I.length)))=back at h3
  have back1:∀(j b:Nat),I[j]?=some b->back j=b:=by intro j b hj;rw[<-hback];simp[hj]
  have back2:∀j,I.length<=j->back j=mem.length+(j-I.length):=by intro j hj;rw[<-hback];simp[List.getElem?_eq_none hj]
  let ids':Nat->Option (Nat×Nat):=fun b=>if b<mem.length then G.ids b else G1.ids (I.length+(b-mem.length))
  classical
  let G':Gh:=⟨G1.S,G1.T,ids',fun x=>if G.hid mem I x then G.X x else G1.X x⟩
  have hX1:∀x d,G'.X x=some d->(G.hid mem I x/\G.X x=some d)\/(¬G.hid mem I x/\G1.X x=some d):=by
   intro x d hx
   have hx:(if G.hid mem I x then G.X x else G1.X x)=some d:=hx
   split at hx
   ·rename_i hh;exact .inl ⟨hh,hx⟩
   ·rename_i hh;exact .inr ⟨hh,hx⟩
  have hids:∀(j b:Nat),I[j]?=some b->G1.ids j=G.ids b:=by
   intro j b hj
   rw[p6 j (by rw[s3];exact(L'b.1 hj).1)]
   simp[Gh.selX,Gh.sel,hj]
  have hren:∀j p,G1.ids j=some p->G'.ids (back j)=some p:=by
   intro j p hp
   cases hj:I[j]? with
   |some b=>
    rw[back1 j b hj]
    show ids' b=some p
    simp only[ids',if_pos (hIn b (M'v hj)).1]
    rw[<-hids j b hj];exact hp
   |none=>
    have hjl:I.length<=j:=by simpa using hj
    rw[back2 j hjl]
    show ids' _=some p
    have:¬mem.length+(j-I.length)<mem.length:=by omega
    simp only[ids',if_neg this]
    rw[show I.length+(mem.length+(j-I.length)-mem.length)=j by omega]
    exact hp
  generalize hmem2:((mem.mapIdx fun b k=>if I.contains b=true then(M1.map (Blk.ren back)).getD (I.idxOf b) .dead else k)++(M1.map (Blk.ren back)).drop I.length)=mem2 at h3
  have get1:∀b,b<mem.length->b∉I->mem2[b]?=mem[b]?:=by
   intro b hb hn
   rw[<-hmem2,L'm (by simpa using hb),N'1]
   cases hk:mem[b]?<;>simp[hn]
  have get2:∀(j b:Nat),I[j]?=some b->∃k1:Blk,M1[j]?=some k1/\mem2[b]?=some (k1.ren back):=by
   intro j b hj
   obtain⟨hbl,_⟩:=hIn b (M'v hj)
   have hjl:=(L'b.1 hj).1
   have hj1:j<M1.length:=by omega
   have hidx:I.idxOf b=j:=by
    have e1:=zla (M'v hj)
    obtain⟨l1,l2⟩:=L'b.1 e1
    obtain⟨l3,l4⟩:=L'b.1 hj
    exact(N'0 s1).1 (l2.trans l4.symm)
   refine⟨M1[j],L'v hj1,?_⟩
   rw[<-hmem2,L'm (by simpa using hbl),N'1,L'v hbl]
   simp[M'v hj,hidx,List.getD,hj1]
  have get3:∀b,mem.length<=b->mem2[b]?=(M1[I.length+(b-mem.length)]?).map (Blk.ren back):=by
   intro b hb
   rw[<-hmem2,List.getElem?_append_right (by simpa using hb)]
   simp
  have split:∀(b:Nat) (k:Blk) (c cp:Nat),mem2[b]?=some k->ids' b=some (c,cp) ->
    (b<mem.length/\b∉I/\mem[b]?=some k/\G.ids b=some (c,cp))\/(∃(j:Nat) (k1:Blk),M1[j]?=some k1/\k=k1.ren back/\G1.ids j=some (c,cp)/\back j=b):=by
   intro b k c cp hk hi
   by_cases hb:b<mem.length
   ·simp only[ids',if_pos hb]at hi
    by_cases hbI:b∈I
    ·right
     have hj:=zla hbI
     obtain⟨k1,e1,e2⟩:=get2 _ b hj
     rw[hk]at e2;cases e2
     exact⟨_,k1,e1,rfl,(hids _ b hj).trans hi,back1 _ b hj⟩
    ·left
     rw[get1 b hb hbI]at hk
     exact⟨hb,hbI,hk,hi⟩
   ·right
    simp only[ids',if_neg hb]at hi
    rw[get3 b (by omega)]at hk
    simp only[Option.map_eq_some_iff]at hk
    obtain⟨k1,e1,e2⟩:=hk
    exact⟨_,k1,e1,e2.symm,hi,by rw[back2 _ (by omega)];omega⟩
  have hle:Le G w G' w1:=by
   refine⟨p2.S,p2.T,hG.ST,fun c hc=>p2.same c (hG.lt c hc) (fun ho=>hG.apart c (own0 c ho) hc),fun b p hp=>?_⟩
   show ids' b=some p
   simp only[ids',if_pos (hG.bnd b p hp)]
   exact hp
  have topEither:∀c,Top G' mem2 c->(∃(b:Nat) (k:Blk) (cp:Nat),b∉I/\mem[b]?=some k/\k.own=true/\G.ids b=some (c,cp))\/Top G1 M1 c:=by
   rintro c ⟨b,k,cp,e1,e2,e3⟩
   rcases split b k c cp e1 e3 with⟨f1,f2,f3,f4⟩|⟨j,k1,f1,f2,f3,f4⟩
   ·exact .inl ⟨b,k,cp,f2,f3,e2,f4⟩
   ·subst f2;rw[Blk.own_ren]at e2;exact .inr ⟨j,k1,cp,f1,e2,f3⟩
  have ownEither:∀c,Own G' mem2 c->(∃(b:Nat) (k:Blk) (cp:Nat),b∉I/\mem[b]?=some k/\k.own=true/\G.ids b=some (c,cp))\/G.hid mem I c\/Own G1 M1 c:=by
   rintro c (hc|⟨d,hd⟩)
   ·exact(topEither c hc).imp id fun h=>.inr (.inl h)
   ·rcases hX1 c d hd with⟨hh,_⟩|⟨_,hx⟩
    ·exact .inr (.inl hh)
    ·exact .inr (.inr (.inr ⟨d,hx⟩))
  have notBoth:∀(b:Nat) (k:Blk) (c cp:Nat),b∉I->mem[b]?=some k->k.own=true->G.ids b=some (c,cp)->¬Own G1 M1 c:=by
   intro b k c cp hb hk hko hi hc
   rcases p2.own c hc with hc|hc
   ·exact own0' b k c cp hb hk hko hi hc
   ·have:=hG.ownLt (.inl ⟨b,k,cp,hk,hko,hi⟩);omega
  have good':Good G' w1 mem2:=by
   refine⟨fun b p hp=>?_,fun b k c cp hk hi=>?_,p1.ST,p1.lt,fun c hc hT=>?_,fun b b' k k' c cp cp' e1 e2 e3 e4 e5 e6=>?_,fun c d hd=>?_,fun c d hd ht=>?_⟩
   ·have hp:ids' b=some p:=hp
    have hl:mem2.length=mem.length+(M1.length-I.length):=by rw[<-hmem2];simp
    by_cases hb:b<mem.length
    ·omega
    ·simp only[ids',if_neg hb]at hp
     have:=p1.bnd _ p hp
     omega
   ·rcases split b k c cp hk hi with⟨f1,f2,f3,f4⟩|⟨j,k1,f1,f2,f3,f4⟩
    ·have hb:=hG.blk b k c cp f3 f4
     refine hb.monoX hle (fun hko=>p2.same c (hb.lt hko) (own0' b k c cp f2 f3 hko f4)) (fun _ hko x hx=>?_)
     have hh:G.hid mem I x:=⟨c,hx,fun⟨b',hb',k',cp',q1,q2,q3⟩=>f2 (hG.inj b b' k k' c cp cp' f3 q1 hko q2 f4 q3▸hb')⟩
     refine⟨?_,p2.same x (hG.xlt x c hx) (hidO x hh)⟩
     show(if G.hid mem I x then G.X x else G1.X x)=some c
     rw[if_pos hh];exact hx
    ·subst f2
     refine BlkOk.ren (G:=G1) (G':=G') back (fun _ h=>h) (fun _ h=>h) (fun b _ p hp=>hren b p hp) (fun _ _ x hx=>?_) (p1.blk j k1 c cp f1 f3)
     show(if G.hid mem I x then G.X x else G1.X x)=some c
     rw[if_neg fun hh=>hidN x hh (.inr ⟨c,hx⟩)];exact hx
   ·rcases ownEither c hc with⟨b,k,cp,f1,f2,f3,f4⟩|hh|hc'
    ·rcases p2.newT c hT with hT|hT|hT
     ·exact hG.apart c (.inl ⟨b,k,cp,f2,f3,f4⟩) hT
     ·exact own0' b k c cp f1 f2 f3 f4 hT
     ·have:=hG.ownLt (.inl ⟨b,k,cp,f2,f3,f4⟩);omega
    ·rcases p2.newT c hT with hT|hT|hT
     ·obtain⟨d,hd,_⟩:=hh;exact hG.apart c (.inr ⟨d,hd⟩) hT
     ·exact hidO c hh hT
     ·have:=hidlt c hh;omega
    ·exact p1.apart c hc' hT
   ·rcases split b k c cp e1 e5 with⟨f1,f2,f3,f4⟩|⟨j,k1,f1,f2,f3,f4⟩<;>rcases split b' k' c cp' e2 e6 with⟨g1,g2,g3,g4⟩|⟨j',k1',g1,g2,g3,g4⟩
    ·exact hG.inj b b' k k' c cp cp' f3 g3 e3 e4 f4 g4
    ·subst g2;rw[Blk.own_ren]at e4
     exact(notBoth b k c cp f2 f3 e3 f4 (.inl ⟨j',k1',cp',g1,e4,g3⟩)).elim
    ·subst f2;rw[Blk.own_ren]at e3
     exact(notBoth b' k' c cp' g2 g3 e4 g4 (.inl ⟨j,k1,cp,f1,e3,f3⟩)).elim
    ·subst f2 g2;rw[Blk.own_ren]at e3 e4
     have:=p1.inj j j' k1 k1' c cp cp' f1 g1 e3 e4 f3 g3
     rw[<-f4,<-g4,this]
   ·rcases hX1 c d hd with⟨hh,hx⟩|⟨_,hx⟩
    ·exact Nat.lt_of_lt_of_le (hidlt c hh) p2.size
    ·exact p1.xlt c d hx
   ·rcases hX1 c d hd with⟨hh,hx⟩|⟨_,hx⟩
    ·rcases topEither c ht with⟨b,k,cp,f1,f2,f3,f4⟩|ht
     ·exact hG.xap c d hx ⟨b,k,cp,f2,f3,f4⟩
     ·exact hidN c hh (.inl ht)
    ·rcases topEither c ht with⟨b,k,cp,f1,f2,f3,f4⟩|ht
     ·exact notBoth b k c cp f1 f2 f3 f4 (.inr ⟨d,hx⟩)
     ·exact p1.xap c d hx ht
  have free':Free G' mem2 us:=by
   refine⟨p4.nodup,fun u hu=>⟨(p4.free u hu).1,fun hc=>?_⟩⟩
   rcases ownEither _ hc with⟨b,k,cp,f1,f2,f3,f4⟩|hh|hc'
   ·rcases p5 u hu with hu'|hu'
    ·exact own0' b k _ cp f1 f2 f3 f4 hu'
    ·have:=hG.ownLt (.inl ⟨b,k,cp,f2,f3,f4⟩);omega
   ·rcases p5 u hu with hu'|hu'
    ·exact hidO _ hh hu'
    ·have:=hidlt _ hh;omega
   ·exact(p4.free u hu).2 hc'
  obtain⟨G'',i1,i2⟩:=zmi good' (RpU.ren (G:=G1) (G':=G') back (fun _ h=>h) (fun _ h=>h) (fun b _ p hp=>hren b p hp) p3) free'
  simp only[Option.some.injEq]at h3
  have e1:(imp mem2 (r0.ren back)).1=r:=by rw[h3]
  have e2:(imp mem2 (r0.ren back)).2=mem':=by rw[h3]
  rw[e1]at i2;rw[e2]at i1
  have hl2:mem.length<=mem2.length:=by rw[<-hmem2];simp
  refine⟨G'',i1.good,⟨⟨p2.os,p2.tape,p2.output,p2.size,fun c hc hn=>p2.same c hc (fun ho=>hn (own0 c ho)),fun c hc=>?_,fun c hc=>by rw[i1.S];exact p2.S c hc,fun c hc=>by rw[i1.T];exact p2.T c hc,fun c hc=>?_,fun c hc=>?_⟩,Nat.le_trans hl2 i1.len,fun b hb=>?_,fun b hb hn=>?_⟩,i2⟩
  ·rcases i1.own c hc with hc|hc
   ·rcases ownEither c hc with⟨b,k,cp,f1,f2,f3,f4⟩|⟨d,hd,_⟩|hc
    ·exact .inl (.inl ⟨b,k,cp,f2,f3,f4⟩)
    ·exact .inl (.inr ⟨d,hd⟩)
    ·exact(p2.own c hc).imp (own0 c) id
   ·obtain⟨u,hu,rfl⟩:=List.mem_map.1 hc
    exact(p5 u hu).imp (own0 _) id
  ·rw[i1.T]at hc
   rcases p2.newT c hc with hc|hc|hc
   ·exact .inl hc
   ·exact .inr (.inl (own0 c hc))
   ·exact .inr (.inr hc)
  ·rw[i1.S]at hc
   rcases p2.newS c hc with hc|hc|hc
   ·exact .inl hc
   ·exact .inr (.inl (own0 c hc))
   ·exact .inr (.inr hc)
  ·rw[i1.ids b (by omega)]
   show ids' b=G.ids b
   simp only[ids',if_pos hb]
  ·rw[i1.old b (by omega),get1 b hb]
   intro hbI
   obtain⟨_,p,hp⟩:=hIn b hbI
   rw[hn]at hp;cases hp
end
end Go.Proofs.YtbaclnecajkknaaGreat.Pi

