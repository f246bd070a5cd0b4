/- Pi: drawn regions: the state while some operations are done. -/
import Derived.Test.YtbaclnecajkknaaGreatPiDx
open List renaming getElem?_eq_some_iff->L'b,getD_eq_getElem?_getD->N'u,getElem?_eq_getElem->L'v,getElem_inj->N'0,getElem?_set_ne->L'n
open Option renaming bind_eq_some_iff->L's,bind_some->L't
open Nat renaming le_refl->L'l
namespace Go.Proofs.YtbaclnecajkknaaGreat.Pi
open Go
set_option linter.all false

theorem z181{orc:Orc}:∀(ios:List IOper)(rs fr:List PV)(mem:List Blk)(ft:List (List Nat×List Nat))(st':St),z17z orc ios rs fr mem=some st'->∃ft',runDr orc ios rs fr mem ft=some (st',ft')
 |[],rs,fr,mem,ft,st',h=>by
  simp only[z17z,Option.some.injEq]at h
  subst h
  exact⟨ft,rfl⟩
 |o::os,rs,fr,mem,ft,st',h=>by
  simp only[z17z,L's]at h
  obtain⟨x,h1,h2⟩:=h
  obtain⟨ft',h3⟩:=z181 os _ _ _ (ft++[(foot rs fr mem o.op,footR rs fr o.op)]) st' h2
  exact⟨ft',by simp only[runDr,h1,L't,h3]⟩
structure Setup(P:Program)(mf:Md)(orc:Orc)(N:Nat)(slots:List Nat)(ops:Array Oper)(ord:List Nat)(ios:List IOper)(chk:List (Nat×Nat))(b:Array Nat)(c:Ctx)(V:List PV)(Fr:Nat->List PV)(Mm:Nat->List Blk)(fr0:List PV)(mem0:List Blk):Prop where
D:DrC ops ord ios chk b
hc:RegC P mf N slots ops ord c
hios:∀(p k:Nat),ord[p]?=some k->∃o q,ops[k]?=some o/\ios[p]?=some (zzi P mf q c ord o)
t:Trace orc ios [] fr0 mem0 V Fr Mm
hchk:∀p y,(p,y)∈chk->p<ios.length->y<ios.length->∀x∈foot (V.take p) (Fr p) (Mm p) (ios.getD p default).op,x∉footR (V.take y) (Fr y) (ios.getD y default).op
hfl:fr0.length=slots.length
section
variable {P:Program}{mf:Md}{orc:Orc}{N:Nat}{slots:List Nat}{ops:Array Oper}{ord:List Nat}{ios:List IOper}{chk:List (Nat×Nat)}{b:Array Nat}{c:Ctx}{V:List PV}{Fr:Nat->List PV}{Mm:Nat->List Blk}{fr0:List PV}{mem0:List Blk}
variable (S:Setup P mf orc N slots ops ord ios chk b c V Fr Mm fr0 mem0)
include S
theorem Setup.at{p:Nat}(hp:p<ios.length):∃o q,ord[p]?=some (ord.getD p 0)/\ops[ord.getD p 0]?=some o/\ios[p]?=some (ios.getD p default)/\ios.getD p default=zzi P mf q c ord o:=by
 have hpo:p<ord.length:=by rw[S.D.ordL,<-S.D.iosL];exact hp
 have h1:ord[p]?=some (ord.getD p 0):=by rw[N'u,L'v hpo];rfl
 obtain⟨o,q,h2,h3⟩:=S.hios p _ h1
 have h4:ios.getD p default=zzi P mf q c ord o:=by rw[N'u,h3];rfl
 exact⟨o,q,h1,h2,by rw[h4];exact h3,h4⟩
omit S in
theorem opAt'{k:Nat}{o:Oper}(h:ops[k]?=some o):(ops.toList[k]?).bind (·.dst)=o.dst:=by simp[h]
theorem Setup.ordInj{p p':Nat}(hp:p<ios.length)(hp':p'<ios.length)(h:ord.getD p 0=ord.getD p' 0):p=p':=by
 obtain⟨_,_,h1,_⟩:=S.at hp
 obtain⟨_,_,h2,_⟩:=S.at hp'
 rw[<-h]at h2
 obtain⟨l1,l2⟩:=L'b.1 h1
 obtain⟨l3,l4⟩:=L'b.1 h2
 exact(N'0 S.D.ordN).1 (l2.trans l4.symm)
theorem Setup.dst{p i:Nat}(hp:p<ios.length)(h:(ios.getD p default).dst=some i):∃s,slots[i]?=some s/\(ops.toList[ord.getD p 0]?).bind (·.dst)=some s:=by
 obtain⟨o,q,h1,h2,h3,h4⟩:=S.at hp
 rw[h4]at h
 simp only[zzi,L's]at h
 obtain⟨s,h5,h6⟩:=h
 rw[S.hc.cslots]at h6
 exact⟨s,idxOf?_some h6,by rw[opAt' h2];exact h5⟩
theorem Setup.dst'{p i s:Nat}(hp:p<ios.length)(hi:slots[i]?=some s)(h:(ops.toList[ord.getD p 0]?).bind (·.dst)=some s):(ios.getD p default).dst=some i:=by
 obtain⟨o,q,h1,h2,h3,h4⟩:=S.at hp
 rw[h4]
 have:o.dst=some s:=by rw[<-opAt' h2];exact h
 simp only[zzi,this,L't,S.hc.cslots]
 obtain⟨l3,l4⟩:=L'b.1 hi
 refine List.idxOf?_eq_some_iff.2 ⟨l3,l4,fun j hj e=>?_⟩
 have:=(N'0 S.hc.nodup).1 (l4.trans e.symm)
 omega
theorem Setup.dstInj{p p' s:Nat}(hp:p<ios.length)(hp':p'<ios.length)(h:(ops.toList[ord.getD p 0]?).bind (·.dst)=some s)(h':(ops.toList[ord.getD p' 0]?).bind (·.dst)=some s):p=p':=
S.ordInj hp hp' (zdf S.hc.dsts h h')
theorem Setup.slotInj{p p' i:Nat}(hp:p<ios.length)(hp':p'<ios.length)(h:(ios.getD p default).dst=some i)(h':(ios.getD p' default).dst=some i):p=p':=by
 obtain⟨s,h1,h2⟩:=S.dst hp h
 obtain⟨s',h3,h4⟩:=S.dst hp' h'
 rw[h1]at h3;cases h3
 exact S.dstInj hp hp' h2 h4
theorem Setup.step{y:Nat}(hy:y<ios.length):∃v,V[y]?=some v/\Fr (y+1)=setFr (Fr y) (ios.getD y default).dst v /\
  ((wanted (V.take y) (ios.getD y default).guard=some false/\v=.undef/\Mm (y+1)=Mm y) \/
  (wanted (V.take y) (ios.getD y default).guard=some true/\z1cm orc (V.take y) (Fr y) (Mm y) (ios.getD y default).op=some (v,Mm (y+1)))):=by
 obtain⟨o,q,h1,h2,h3,h4⟩:=S.at hy
 obtain⟨u,hV⟩:∃u,V[y]?=some u:=⟨_,L'v (by rw[S.t.len];exact hy)⟩
 have h:=S.t.step y _ _ h3 hV
 rw[List.nil_append]at h
 simp only[z1cq,L's]at h
 obtain⟨w,e1,e2⟩:=h
 refine⟨_,hV,?_⟩
 cases w with
 |true=>
  simp only[if_true,Option.map_eq_some_iff,Prod.mk.injEq]at e2
  obtain⟨x,e3,e4,e5,e6⟩:=e2
  exact⟨by rw[<-e5,e4],.inr ⟨e1,by rw[e3,<-e4,<-e6]⟩⟩
 |false=>
  simp only[Bool.false_eq_true,if_false,Option.some.injEq,Prod.mk.injEq]at e2
  obtain⟨e3,e4,e5⟩:=e2
  exact⟨by rw[<-e4,<-e3],.inl ⟨e1,e3.symm,e5.symm⟩⟩
theorem Setup.frLen:∀{y:Nat},y<=ios.length->(Fr y).length=slots.length
 |0,_=>by rw[S.t.fr0];exact S.hfl
 |y+1,hy=>by
  obtain⟨v,_,h,_⟩:=S.step (y:=y) (by omega)
  rw[h,z19a];exact Setup.frLen (by omega)
theorem Setup.frNone{i:Nat}:∀{y:Nat},y<=ios.length->(∀p,p<y->(ios.getD p default).dst≠some i)->(Fr y)[i]?=fr0[i]?
 |0,_,_=>by rw[S.t.fr0]
 |y+1,hy,hn=>by
  obtain⟨v,_,h,_⟩:=S.step (y:=y) (by omega)
  rw[h]
  have:=hn y (by omega)
  cases hd:(ios.getD y default).dst with
  |none=>exact Setup.frNone (by omega) (fun p hp=>hn p (by omega))
  |some j=>
   rw[hd]at this
   simp only[setFr]
   rw[L'n (by rintro rfl;exact this rfl)]
   exact Setup.frNone (by omega) (fun p hp=>hn p (by omega))
theorem Setup.frDone{i p:Nat}:∀{y:Nat},y<=ios.length->p<y->(ios.getD p default).dst=some i->(Fr y)[i]?=V[p]?
 |0,_,h,_=>by omega
 |y+1,hy,hp,hd=>by
  obtain⟨v,hv,h,_⟩:=S.step (y:=y) (by omega)
  rw[h]
  obtain⟨s,h1,h2⟩:=S.dst (by omega) hd
  have hil:=(L'b.1 h1).1
  by_cases hpy:p=y
  ·subst hpy
   rw[hd]
   simp only[setFr]
   rw[List.getElem?_set_self (by rw[S.frLen (by omega)];exact hil),hv]
  ·cases hd':(ios.getD y default).dst with
   |none=>exact Setup.frDone (by omega) (by omega) hd
   |some j=>
    simp only[setFr]
    rw[L'n]
    ·exact Setup.frDone (by omega) (by omega) hd
    ·rintro rfl
     exact hpy (S.slotInj (by omega) (by omega) hd hd')
theorem Setup.grow1{y:Nat}(hy:y<ios.length):Mm (y+1)=Mm y\/(isA (ios.getD y default).op=true/\wanted (V.take y) (ios.getD y default).guard=some true/\∃k,Mm (y+1)=Mm y++[k])\/(isF (ios.getD y default).op=true/\Kept (fun x=>x∈foot (V.take y) (Fr y) (Mm y) (ios.getD y default).op) (Mm y) (Mm (y+1))):=by
 obtain⟨v,_,_,h⟩:=S.step hy
 rcases h with⟨_,_,h⟩|⟨hw,h⟩
 ·exact .inl h
 ·by_cases hF:isF (ios.getD y default).op=true
  ·exact .inr (.inr ⟨hF,zhr hF h⟩)
  ·have hF:isF (ios.getD y default).op=false:=by simpa using hF
   rcases zy1 _ hF with h1|h1|h1|h1|h1|h1
   ·exact .inl (z12v h1 h).1
   ·exact .inl (zxu (.inr (.inr ⟨_,_,_,h1⟩)) h)
   ·exact .inl (zxu (.inr (.inr h1)) h)
   ·obtain⟨k,res,_,h2,_⟩:=zxs h1 h
    exact .inr (.inl ⟨h1,hw,k,h2⟩)
   ·exact .inl (zxu (.inl h1) h)
   ·exact .inl (zxu (.inr (.inl h1)) h)
theorem Setup.lenMono{x:Nat}:∀{y:Nat},x<=y->y<=ios.length->(Mm x).length<=(Mm y).length
 |0,h,_=>by rw[show x=0 by omega];exact L'l _
 |y+1,h,hy=>by
  by_cases hx:x=y+1
  ·subst hx;exact L'l _
  ·have ih:=Setup.lenMono (x:=x) (y:=y) (by omega) (by omega)
   rcases S.grow1 (y:=y) (by omega)with h1|⟨_,_,k,h1⟩|⟨_,h1⟩
   ·rw[h1];exact ih
   ·rw[h1];simp;omega
   ·exact Nat.le_trans ih h1.1
theorem Setup.between{x:Nat}:∀{y:Nat},x<=y->y<=ios.length->(∀p,x<=p->p<y->isF (ios.getD p default).op=false)->∃ks,Mm y=Mm x++ks
 |0,h,_,_=>⟨[],by rw[show x=0 by omega,List.append_nil]⟩
 |y+1,h,hy,hn=>by
  by_cases hx:x=y+1
  ·subst hx;exact⟨[],by simp⟩
  ·obtain⟨ks,ih⟩:=Setup.between (x:=x) (y:=y) (by omega) (by omega) (fun p h1 h2=>hn p h1 (by omega))
   rcases S.grow1 (y:=y) (by omega)with h1|⟨_,_,k,h1⟩|⟨h0,_⟩
   ·exact⟨ks,by rw[h1,ih]⟩
   ·exact⟨ks++[k],by rw[h1,ih,List.append_assoc]⟩
   ·rw[hn y (by omega) (by omega)]at h0;cases h0
theorem Setup.stay{x bl:Nat}(hb:bl<(Mm x).length):∀{y:Nat},x<=y->y<=ios.length->(∀p,x<=p->p<y->isF (ios.getD p default).op=true->bl∉foot (V.take p) (Fr p) (Mm p) (ios.getD p default).op)->(Mm y)[bl]?=(Mm x)[bl]?
 |0,h,_,_=>by rw[show x=0 by omega]
 |y+1,h,hy,hn=>by
  by_cases hx:x=y+1
  ·subst hx;rfl
  ·have ih:=Setup.stay hb (y:=y) (by omega) (by omega) (fun p h1 h2=>hn p h1 (by omega))
   have hl:=S.lenMono (x:=x) (y:=y) (by omega) (by omega)
   rcases S.grow1 (y:=y) (by omega)with h1|⟨_,_,k,h1⟩|⟨h0,h1⟩
   ·rw[h1,ih]
   ·rw[h1,List.getElem?_append_left (by omega),ih]
   ·rw[h1.2 bl (by omega) (hn y (by omega) (by omega) h0),ih]
end

def zct(ord:List Nat)(listed:Array Bool)(p:Nat):Bool:=listed.getD (ord.getD p 0) false
structure DInv(N:Nat)(slots:List Nat)(ops:Array Oper)(ord:List Nat)(ios:List IOper)(b:Array Nat)(V:List PV)(Mm:Nat->List Blk)(fr0:List PV)(mem0:List Blk)(G0:Gh)(w0:World)(listed:Array Bool)(ps:Nat)(G:Gh)(w:World)(a:Act):Prop where
size:listed.size=ops.size
clos:∀y x,y<ios.length->x<ios.length->zct ord listed y=true->(b.getD (ord.getD y 0) 0).testBit (ord.getD x 0)=true->zct ord listed x=true
psn:ps<=ios.length
psF:ps<ios.length->isF (ios.getD ps default).op=true
lt:∀y,y<ios.length->zct ord listed y=true->y<ps
wr:∀p,p<ps->isF (ios.getD p default).op=true->zct ord listed p=true
good:Good G w (Mm ps)
vals:∀p s v,p<ios.length->zct ord listed p=true->(ops.toList[ord.getD p 0]?).bind (·.dst)=some s->V[p]?=some v->Rp G w v (a.tmps.getD s undef)
slots:∀i s y,slots[i]?=some s->fr0[i]?=some y->(∀p,p<ios.length->zct ord listed p=true->(ios.getD p default).dst≠some i)->Rp G w y (a.tmps.getD s undef)
late:∀p,p<ps->zct ord listed p=false->Mm (p+1)≠Mm p->G.ids (Mm p).length=none/\(Mm ps)[(Mm p).length]?=(Mm (p+1))[(Mm p).length]?
tm:N<=a.tmps.size
defs:a.defers=[]
wx:Wx G0 w0 mem0 G w (Mm ps)
ids:∀b,b<mem0.length->G.ids b=G0.ids b
end Go.Proofs.YtbaclnecajkknaaGreat.Pi

