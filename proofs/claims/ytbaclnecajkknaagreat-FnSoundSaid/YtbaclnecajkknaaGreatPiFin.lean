/- Pi: a call's results handed out. -/
import Derived.Test.YtbaclnecajkknaaGreatPiCalm
open Option renaming map_eq_some_iff->M'0,bind_eq_some_iff->L's,bind_some->L't
open List renaming mem_singleton->N'2,mem_map->M's,mem_append->L'j,length_pos_iff->M'5
namespace Go.Proofs.YtbaclnecajkknaaGreat.Pi
open Go
set_option linter.all false

structure Exps(G:Gh)(w:World)(mem:List Blk)(G':Gh)(mem':List Blk)(us:List (Nat×Nat)):Prop where
good:Good G' w mem'
ids:G'.ids=G.ids
len:mem'.length=mem.length
S:∀c,G.S c->G'.S c
T:∀c,G.T c->G'.T c
own:∀c,Own G' mem' c->Own G mem c
newS:∀c,G'.S c->G.S c\/Own G mem c
newT:∀c,G'.T c->G.T c\/Own G mem c
free:Free G' mem' us
out:∀u∈us,Own G mem u.1
section
variable {P:Program}{G:Gh}{w w':World}{mem:List Blk}
theorem Exps.refl(hG:Good G w mem):Exps G w mem G mem []:=⟨hG,rfl,rfl,fun _ h=>h,fun _ h=>h,fun _ h=>h,fun _ h=>.inl h,fun _ h=>.inl h,⟨by simp,by simp⟩,by simp⟩
theorem Exps.le{G':Gh}{mem':List Blk}{us:List (Nat×Nat)}(hG:Good G w mem)(h:Exps G w mem G' mem' us):Le G w G' w:=
⟨h.S,h.T,hG.ST,fun _ _=>rfl,fun b p hp=>by rw[h.ids];exact hp⟩
theorem Exps.trans{G1 G2:Gh}{m1 m2:List Blk}{u1 u2:List (Nat×Nat)}(h:Exps G w mem G1 m1 u1)(h':Exps G1 w m1 G2 m2 u2):Exps G w mem G2 m2 (u1++u2):=by
 refine⟨h'.good,h'.ids.trans h.ids,h'.len.trans h.len,fun c hc=>h'.S c (h.S c hc),fun c hc=>h'.T c (h.T c hc),fun c hc=>h.own c (h'.own c hc),fun c hc=>?_,fun c hc=>?_,⟨?_,fun u hu=>?_⟩,fun u hu=>?_⟩
 ·rcases h'.newS c hc with hc|hc
  ·exact h.newS c hc
  ·exact .inr (h.own c hc)
 ·rcases h'.newT c hc with hc|hc
  ·exact h.newT c hc
  ·exact .inr (h.own c hc)
 ·rw[List.map_append,List.nodup_append]
  refine⟨h.free.nodup,h'.free.nodup,fun a ha b hb=>?_⟩
  rintro rfl
  obtain⟨u,hu,rfl⟩:=M's.1 ha
  obtain⟨u',hu',e⟩:=M's.1 hb
  exact(h.free.free u hu).2 (e▸h'.out u' hu')
 ·rcases L'j.1 hu with hu|hu
  ·obtain⟨f1,f2⟩:=h.free.free u hu
   refine⟨fun hT=>?_,fun ho=>f2 (h'.own _ ho)⟩
   rcases h'.newT _ hT with hT|hT
   ·exact f1 hT
   ·exact f2 hT
  ·exact h'.free.free u hu
 ·rcases L'j.1 hu with hu|hu
  ·exact h.out u hu
  ·exact h.own _ (h'.out u hu)
theorem zfu(hG:Good G w mem){x y:PV}{v:Value}{mem':List Blk}(hx:Rp G w x v)(h:pub mem x=some (y,mem')):∃G',Exps G w mem G' mem' []/\Rp G' w y v:=by
 cases x<;>simp only[pub]at h<;>try(cases h;done)
 case int=>cases h;exact⟨G,.refl hG,hx⟩
 case bool=>cases h;exact⟨G,.refl hG,hx⟩
 case str=>cases h;exact⟨G,.refl hG,hx⟩
 case sl=>cases h;exact⟨G,.refl hG,hx⟩
 case nil=>cases h;exact⟨G,.refl hG,none,0,[],hx,by simp,rfl,fun _=>rfl,.inl rfl⟩
 case ref b sz off len=>
  obtain⟨c,cap,cp,h1,h2,h3,A,rfl,hA⟩:=hx
  simp only[M'0,Prod.mk.injEq]at h
  obtain⟨⟨fl,es⟩,h4,rfl,rfl⟩:=h
  obtain⟨e1,e2,vs,e3,e4⟩:=z16x hG h1 h4
  have e1:es.length=len:=e1
  have val:∀(G':Gh),(∀c,G.S c->G'.S c)->es=[]\/G'.S c->Rp G' w (.sl fl sz es) (.slice A len cap):=fun G' hS hc=>by
   refine⟨_,cap,vs,by rw[e1],by omega,RpEs.mono (fun c hc=>⟨hS c hc,rfl⟩) _ _ _ _ e3,capz hA h2,?_⟩
   rcases hc with hc|hc
   ·exact .inl hc
   rcases e4 with e4|e4
   ·exact .inl e4
   rcases hA with hA|rfl
   ·exact .inl (List.eq_nil_of_length_eq_zero (by omega))
   ·exact .inr ⟨c,off*sz,rfl,hc,e4⟩
  unfold rowAt at h4
  split at h4
  ·rename_i t fl' sz' es' hb
   by_cases h0:es'=[]
   ·subst h0
    have hfr:freeze mem b=mem.set b (.fro fl' sz' []):=by simp [freeze,hb]
    rw[hfr]
    obtain⟨g1,g2⟩:=hG.bury' (k:=.dead) (.fro fl' sz' []) h1 rfl (.inl rfl)
    refine⟨G,⟨g1,rfl,by simp,fun _ h=>h,fun _ h=>h,fun c' hc'=>Own.set (G:=G) hb (fun h=>(by cases h)) hc',fun _ h=>.inl h,fun _ h=>.inl h,⟨by simp,by simp⟩,by simp⟩,val G (fun _ h=>h) (.inl ?_)⟩
    split at h4
    ·cases h4;simp
    ·cases h4
   obtain⟨g1,g2⟩:=hG.freeze hb h0 h1
   have hfr:freeze mem b=mem.set b (.fro fl' sz' es'):=by simp [freeze,hb]
   rw[hfr]
   have ho:∀c,Own (G.frz c) (mem.set b (.fro fl' sz' es')) c->Own G mem c:=fun c hc=>Own.set (G:=G) hb (fun _=>z101 h0) hc
   refine⟨_,⟨g1,rfl,by simp,fun c hc=>.inl hc,fun c hc=>.inl hc,fun c' hc'=>Own.set (G:=G) hb (fun _=>z101 h0) hc',fun c' hc'=>?_,fun c' hc'=>?_,⟨by simp,by simp⟩,by simp⟩,val _ (fun c hc=>.inl hc) (.inr (.inr rfl))⟩
   ·rcases hc' with hc'|rfl
    ·exact .inl hc'
    ·exact .inr (.inl ⟨b,_,cp,hb,z101 h0,h1⟩)
   ·rcases hc' with hc'|rfl
    ·exact .inl hc'
    ·exact .inr (.inl ⟨b,_,cp,hb,z101 h0,h1⟩)
  ·rename_i fl' sz' es' hb
   have hfr:freeze mem b=mem:=by simp [freeze,hb]
   rw[hfr]
   refine⟨G,.refl hG,val G (fun _ h=>h) ?_⟩
   by_cases h0:es'=[]
   ·subst h0
    left
    split at h4
    ·cases h4;simp
    ·cases h4
   ·exact .inr (zi1 (hG.blk b _ c cp hb h1) h0).1
  ·cases h4
theorem zf7(hG:Good G w mem){m:Nat}{x y:PV}{v:Value}{mem':List Blk}(hx:Rp G w x v)(h:exp1 m mem x=some (y,mem')):∃G' us,Exps G w mem G' mem' us/\RpU1 G' w y v us:=by
 have easy:∀(y:PV),(∀t fl sz es,y≠.un t fl sz es)->Rp G w y v->mem'=mem->∃G' us,Exps G w mem G' mem' us/\RpU1 G' w y v us:=by
  rintro y hy hr rfl
  refine⟨G,[],.refl hG,?_⟩
  cases y<;>first|exact⟨rfl,hr⟩|exact absurd rfl (hy _ _ _ _)|exact hr.elim
 have viapub:∀(z:PV),pub mem x=some (z,mem')->(∀t fl sz es,z≠.un t fl sz es)->∃G' us,Exps G w mem G' mem' us/\RpU1 G' w z v us:=by
  intro z hz hy
  obtain⟨G',e,r⟩:=zfu hG hx hz
  refine⟨G',[],e,?_⟩
  cases z<;>first|exact⟨rfl,r⟩|exact absurd rfl (hy _ _ _ _)|exact r.elim
 cases x<;>simp only[exp1]at h<;>try(cases h;done)
 case int=>cases h;exact easy _ (by simp) hx rfl
 case bool=>cases h;exact easy _ (by simp) hx rfl
 case str=>cases h;exact easy _ (by simp) hx rfl
 case sl=>cases h;exact easy _ (by simp) hx rfl
 case nil=>cases h;exact easy _ (by simp) hx rfl
 case ref b sz off len=>
  split at h
  ·cases h;exact easy _ (by simp) hx rfl
  ·split at h
   ·rename_i t fl sz' es hb
    split at h
    case isFalse=>cases h
    rename_i hsz;subst hsz
    split at h
    ·rename_i hc
     obtain⟨rfl,rfl⟩:=hc
     cases h
     obtain⟨c,cap,cp,h1,h2,h3,A,rfl,hA⟩:=hx
     have hcap:cp=cap:=by omega
     subst hcap
     by_cases h0:es=[]
     ·subst h0
      obtain⟨g1,g2⟩:=hG.bury hb rfl h1
      exact⟨G,[],⟨g1,rfl,by simp,fun _ h=>h,fun _ h=>h,fun c' hc'=>Own.set (G:=G) hb (fun h=>(by cases h)) hc',fun _ h=>.inl h,fun _ h=>.inl h,⟨by simp,by simp⟩,by simp⟩,c,cp,A,rfl,rfl,.inl rfl,hG.blk b _ c cp hb h1⟩
     have h0':es.isEmpty=false:=by simpa using h0
     obtain rfl:=hA.resolve_left (by have:=z177 (hG.blk b _ c cp hb h1);have:=M'5.2 h0;omega)
     obtain⟨g1,g2⟩:=hG.write hb (z101 h0) h1 ((Grew.refl w).wrote c) (k':=.dead) (fun _ _ _ _=>trivial)
     have hno:=Own.unset (k':=.dead) hG hb (z101 h0) h1 rfl
     have hown:Own G mem c:=.inl ⟨b,_,cp,hb,z101 h0,h1⟩
     refine⟨G,[(c,cp)],⟨g1,rfl,by simp,fun _ h=>h,fun _ h=>h,fun c' hc'=>Own.set (G:=G) hb (fun _=>z101 h0) hc',fun _ h=>.inl h,fun _ h=>.inl h,⟨by simp,?_⟩,?_⟩,c,cp,_,by rw[h0'];rfl,rfl,.inr (by simp),hG.blk b _ c cp hb h1⟩
     ·simp only[N'2,forall_eq]
      exact⟨hG.apart c hown,hno⟩
     ·simp only[N'2,forall_eq]
      exact hown
    ·split at h
     ·rename_i hc
      obtain⟨rfl,hpos,hle⟩:=hc
      cases h
      obtain⟨c,cap,cp,h1,h2,h3,A,rfl,hA⟩:=hx
      have hcap:cp=cap:=by omega
      subst hcap
      have h0:es≠[]:=by rintro rfl;simp at hle;omega
      have h0t:es.take len≠[]:=by intro e;have:=congrArg List.length e;rw[List.length_take,List.length_nil]at this;omega
      have h0':(es.take len).isEmpty=false:=by simpa using h0t
      obtain rfl:=hA.resolve_left (by omega)
      obtain⟨g1,g2⟩:=hG.write hb (z101 h0) h1 ((Grew.refl w).wrote c) (k':=.dead) (fun _ _ _ _=>trivial)
      have hno:=Own.unset (k':=.dead) hG hb (z101 h0) h1 rfl
      have hown:Own G mem c:=.inl ⟨b,_,cp,hb,z101 h0,h1⟩
      have htl:(es.take len).length=len:=by simp;omega
      have hblk:BlkOk G w c cp (.row t fl sz' (es.take len)):=by
       obtain⟨tt,cs,us,r1,r2,r3,r4,r5⟩:=z176 (hG.blk b _ c cp hb h1) h0
       refine .inr ⟨h0t,tt,cs,us.take (len*sz'),r1,r2,by omega,r4.take len,?_⟩
       have hm:len*sz'<=es.length*sz':=Nat.mul_le_mul_right _ hle
       rw[htl,<-r5,List.take_take,Nat.min_eq_left hm]
      refine⟨G,[(c,cp)],⟨g1,rfl,by simp,fun _ h=>h,fun _ h=>h,fun c' hc'=>Own.set (G:=G) hb (fun _=>z101 h0) hc',fun _ h=>.inl h,fun _ h=>.inl h,⟨by simp,?_⟩,?_⟩,c,cp,_,by rw[h0'];rfl,by rw[htl],.inr (by simp),hblk⟩
      ·simp only[N'2,forall_eq]
       exact⟨hG.apart c hown,hno⟩
      ·simp only[N'2,forall_eq]
       exact hown
     ·split at h
      ·rename_i hle
       cases h
       exact viapub _ (by simp [pub,rowAt,hb,hle]) (by simp)
      ·cases h
   ·rename_i fl sz' es hb
    split at h
    ·rename_i hc
     obtain⟨hle,rfl⟩:=hc
     cases h
     exact viapub _ (by simp [pub,rowAt,hb,hle,freeze]) (by simp)
    ·cases h
   ·rename_i t sz' es hb
    split at h
    case isFalse=>cases h
    rename_i hc
    obtain⟨rfl,rfl,rfl⟩:=hc
    cases h
    obtain⟨c,cap,cp,h1,h2,h3,A,rfl,hA⟩:=hx
    have hcap:cp=cap:=by omega
    subst hcap
    by_cases h0:es=[]
    ·subst h0
     have hz:cp=0:=by
      rcases hG.blk b _ c cp hb h1 with h|⟨h,_⟩
      ·exact h.2
      ·exact(h rfl).elim
     obtain⟨g1,g2⟩:=hG.bury hb rfl h1
     exact⟨G,[],⟨g1,rfl,by simp,fun _ h=>h,fun _ h=>h,fun c' hc'=>Own.set (G:=G) hb (fun h=>(by cases h)) hc',fun _ h=>.inl h,fun _ h=>.inl h,⟨by simp,by simp⟩,by simp⟩,c,cp,A,[],rfl,rfl,.inl rfl,fun _=>hz,.inl rfl⟩
    have h0':es.isEmpty=false:=by simpa using h0
    obtain⟨cs,vs,g,k1,k2,k3,k4,k5,k6,k7,k8⟩:=zr3 (hG.blk b _ c cp hb h1) h0
    obtain rfl:=hA.resolve_left (by have:=M'5.2 h0;omega)
    obtain⟨g1,g2⟩:=hG.handL hb h0 h1
    have htop:Top G mem c:=⟨b,_,cp,hb,z100 h0,h1⟩
    have hmem:∀u∈(c,cp)::g.map (fun x=>(x,0)),u.1=c\/G.X u.1=some c:=by
     intro u hu
     rcases List.mem_cons.1 hu with rfl|hu
     ·exact .inl rfl
     ·obtain⟨x,hx,rfl⟩:=M's.1 hu
      exact .inr (k8 x hx)
    have hO:∀u∈(c,cp)::g.map (fun x=>(x,0)),Own G mem u.1:=fun u hu=>(hmem u hu).elim (fun e=>.inl (e▸htop)) fun e=>.inr ⟨c,e⟩
    refine⟨G.take c,(c,cp)::g.map (fun x=>(x,0)),⟨g1,rfl,by simp,fun _ h=>h,fun _ h=>h,fun c' hc'=>(g2 c' hc').1,fun _ h=>.inl h,fun _ h=>.inl h,⟨?_,fun u hu=>⟨hG.apart _ (hO u hu),fun ho=>?_⟩⟩,hO⟩,c,cp,_,g,by rw[h0'];rfl,rfl,.inr (by simp),fun h=>(h0 h).elim,.inr ⟨cs,vs,k1,k2,k3,k4,k5,k6,fun x hx=>hG.xlt x c (k8 x hx)⟩⟩
    ·rw[List.map_cons,List.map_map,List.nodup_cons]
     have hid:(g.map (Prod.fst∘fun x=>(x,0)))=g:=List.map_id'' (fun _=>rfl) g
     rw[hid]
     exact⟨fun hc=>hG.xap c c (k8 c hc) htop,k7⟩
    ·obtain⟨_,q2,q3⟩:=g2 _ ho
     exact(hmem u hu).elim q2 q3
   ·cases h
theorem zft:∀{xs ys:List PV}{vs:List Value}{G:Gh}{m:Nat}{mem mem':List Blk},Good G w mem->RpL G w xs vs->expL m mem xs=some (ys,mem')->∃G' us,Exps G w mem G' mem' us/\RpU1L G' w ys vs us
 |[],ys,vs,G,m,mem,mem',hG,hx,h=>by
  simp only[expL,Option.some.injEq,Prod.mk.injEq]at h
  obtain⟨rfl,rfl⟩:=h
  exact⟨G,[],.refl hG,hx,rfl⟩
 |x::xs,ys,vs,G,m,mem,mem',hG,hx,h=>by
  obtain⟨v,rest,rfl,h1,h2⟩:=hx
  simp only[expL,L's,M'0]at h
  obtain⟨⟨y,m1⟩,h3,⟨⟨ys',m2⟩,h4,h5⟩⟩:=h
  simp only[Prod.mk.injEq]at h5
  obtain⟨rfl,rfl⟩:=h5
  obtain⟨G1,u1,g1,g2⟩:=zf7 hG h1 h3
  obtain⟨G2,u2,k1,k2⟩:=zft g1.good (RpL.mono (g1.le hG) h2) h4
  exact⟨G2,u1++u2,g1.trans k1,v,rest,u1,u2,rfl,rfl,g2.mono (k1.le g1.good),k2⟩
theorem zfi(hG:Good G w mem){m:Nat}{x y:PV}{v:Value}{mem':List Blk}(hx:Rp G w x v)(h:expA m mem x=some (y,mem')):∃G' us,Exps G w mem G' mem' us/\RpUA G' w y v us/\∀cs,y≠.tup cs:=by
 by_cases hq:∃cs,x=.agg cs
 ·obtain⟨cs,rfl⟩:=hq
  simp only[expA,M'0,Prod.mk.injEq]at h
  obtain⟨⟨ys,m1⟩,h1,rfl,rfl⟩:=h
  obtain⟨vs,rfl,h2⟩:=hx
  obtain⟨G',us,g1,g2⟩:=zft hG h2 h1
  exact⟨G',us,g1,⟨vs,rfl,g2⟩,by simp⟩
 ·have hq:∀cs,x≠.agg cs:=fun cs e=>hq ⟨cs,e⟩
  have he:expA m mem x=exp1 m mem x:=by cases x<;>first|rfl|exact absurd rfl (hq _)
  rw[he]at h
  have hy:(∀cs,y≠.agg cs)/\∀cs,y≠.tup cs:=by
   cases x<;>simp only[exp1]at h
   case ref=>
    repeat' split at h
    all_goals first
     |(cases h;done)
     |(cases h;exact⟨by simp,by simp⟩)
   all_goals first
    |(cases h;done)
    |(cases h;exact⟨by simp,by simp⟩)
  obtain⟨G',us,g1,g2⟩:=zf7 hG hx h
  exact⟨G',us,g1,(z0c hy.1).2 g2,hy.2⟩
theorem zfd:∀{xs ys:List PV}{vs:List Value}{G:Gh}{m:Nat}{mem mem':List Blk},Good G w mem->RpL G w xs vs->expAL m mem xs=some (ys,mem')->∃G' us,Exps G w mem G' mem' us/\RpUAL G' w ys vs us/\∀y∈ys,∀cs,y≠.tup cs
 |[],ys,vs,G,m,mem,mem',hG,hx,h=>by
  simp only[expAL,Option.some.injEq,Prod.mk.injEq]at h
  obtain⟨rfl,rfl⟩:=h
  exact⟨G,[],.refl hG,⟨hx,rfl⟩,by simp⟩
 |x::xs,ys,vs,G,m,mem,mem',hG,hx,h=>by
  obtain⟨v,rest,rfl,h1,h2⟩:=hx
  simp only[expAL,L's,M'0]at h
  obtain⟨⟨y,m1⟩,h3,⟨⟨ys',m2⟩,h4,h5⟩⟩:=h
  simp only[Prod.mk.injEq]at h5
  obtain⟨rfl,rfl⟩:=h5
  obtain⟨G1,u1,g1,g2,g3⟩:=zfi hG h1 h3
  obtain⟨G2,u2,k1,k2,k3⟩:=zfd g1.good (RpL.mono (g1.le hG) h2) h4
  exact⟨G2,u1++u2,g1.trans k1,⟨v,rest,u1,u2,rfl,rfl,g2.mono (k1.le g1.good),k2⟩,by simpa using⟨g3,k3⟩⟩
def pack(vs:List Value):Value:=match vs with
|[v]=>v
|vs=>.tuple (List.toArray vs)
theorem z10a{ys:List PV}{vs:List Value}{us:List (Nat×Nat)}(h:RpUAL G w ys vs us)(ht:∀y∈ys,∀cs,y≠.tup cs):RpU G w (packP ys) (pack vs) us:=by
 cases ys with
 |nil=>
  obtain⟨rfl,rfl⟩:=h
  exact⟨[],rfl,rfl,rfl⟩
 |cons y ys=>
  cases ys with
  |nil=>
   obtain⟨v,rest,u1,u2,rfl,rfl,k1,k2,k3⟩:=h
   subst k2 k3
   rw[List.append_nil]
   exact(z0d (ht y (by simp))).2 k1
  |cons y' ys'=>
   obtain⟨v,rest,u1,u2,rfl,rfl,k1,k2⟩:=h
   obtain⟨v',rest',u1',u2',rfl,rfl,k1',k2'⟩:=k2
   exact⟨_,rfl,v,_,u1,_,rfl,rfl,k1,v',rest',u1',u2',rfl,rfl,k1',k2'⟩
theorem zgs{G0:Gh}{w0:World}{M0:List Blk}{m:Nat}(hm:M0.length=m){st:St}{rs:List IRes}{xs:List PV}{vs:List Value}{r:PV}{M1:List Blk}(hG:Good G w st.mem)(hw:Wx G0 w0 M0 G w st.mem)(hi:∀b,b<m->G.ids b=G0.ids b)
  (hr:resL st rs=some xs) (hx:RpL G w xs vs) (h:zgq m rs st=some (r,M1)):Post G0 w0 M0 r M1 (pack vs) w:=by
 simp only[zgq,hr,L't,L's]at h
 obtain⟨⟨ys,mem2⟩,h1,h2⟩:=h
 split at h2
 case isFalse=>cases h2
 rename_i hrefs
 simp only[M'0,Prod.mk.injEq]at h2
 obtain⟨M,h3,rfl,rfl⟩:=h2
 obtain⟨G1,us,e1,e2,e3⟩:=zfd hG hx h1
 unfold close at h3
 generalize hI:(List.range m++(refsL ((mem2.take m).flatMap fun b=>match b with| .box _ cs=>cs|_=>[])).filter (m<=·))=I at h3
 have hIb:∀b,b<m->I[b]?=some b:=by
  intro b hb
  rw[<-hI,List.getElem?_append_left (by simpa using hb)]
  simp[hb]
 obtain⟨s1,s2,s3,s4⟩:=z198 h3
 have hRU:RpUAL (G1.sel I) w ys vs us:=by
  have hrefs':∀b∈refsL ys,b<m:=by
   intro b hb
   rw[List.all_eq_true]at hrefs
   simpa using hrefs b hb
  have:=RpUAL.ren (G:=G1) (G':=G1.sel I) (fun b=>b) (fun _ h=>h) (fun _ h=>h) (fun b hb p hp=>by
   show(I[b]?).bind G1.ids=some p
   rw[hIb b (hrefs' b hb)];exact hp) e2
  rwa [z150]at this
 have hvs:RpU (G1.sel I) w (packP ys) (pack vs) us:=z10a hRU e3
 have hsel:∀c,Own (G1.sel I) M c->Own G1 mem2 c:=fun c hc=>by
  rcases hc with hc|hc
  ·obtain⟨b,k,cp,_,e2,e3,e4⟩:=z196 h3 hc
   exact .inl ⟨b,k,cp,e2,e3,e4⟩
  ·exact .inr hc
 refine⟨G1.sel I,us,e1.good.select h3,hw.trans ⟨rfl,rfl,rfl,Nat.le_refl _,fun _ _ _=>rfl,fun c hc=>.inl (e1.own c (hsel c hc)),e1.S,e1.T,fun c hc=>(e1.newT c hc).imp id .inl,fun c hc=>(e1.newS c hc).imp id .inl⟩,hvs,⟨e1.free.nodup,fun u hu=>⟨(e1.free.free u hu).1,fun ho=>(e1.free.free u hu).2 (hsel _ ho)⟩⟩,fun u hu=>hw.own _ (e1.out u hu),fun b hb=>?_,?_⟩
 ·show(I[b]?).bind G1.ids=_
  rw[hIb b (by omega),L't,e1.ids]
  exact hi b (by omega)
 ·rw[s3,<-hI,List.length_append,List.length_range];omega
end
end Go.Proofs.YtbaclnecajkknaaGreat.Pi

