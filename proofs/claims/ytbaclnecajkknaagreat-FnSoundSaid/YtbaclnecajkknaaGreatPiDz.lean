/- Pi: drawn regions: in every order they do what the run tells. No condition but the static check. -/
import Derived.Test.YtbaclnecajkknaaGreatPiDy
open Nat renaming lt_or_ge->N'v,le_refl->L'l,zero_le->P'1,le_trans->L'g
open List renaming range->L'1,getElem?_eq_some_iff->L'b,mem_of_getElem?->M'v,mem_range->N's,getElem?_eq_none->L'r,getD_eq_getElem?_getD->N'u,getElem?_map->N'i,mem_filterMap->N'j,filter_cons_of_neg->N'x,filter_cons_of_pos->N'y,length_cons->M'2,mem_filter->N'z,mem_iff_getElem?->P'0,getElem?_range->P'2,getElem?_append_right->N'n,replicate->L'0,getElem?_append_left->L'm,all_eq_true->L'h
open Option renaming map_some->L'z,map_eq_some_iff->M'0,getD_some->P'5
open Bool renaming and_eq_true->L'c,not_eq_true'->N'e,not_true->N'p,false_or->N'q
namespace Go.Proofs.YtbaclnecajkknaaGreat.Pi
open Go
set_option linter.all false

def rsM(V:List PV)(done:Nat->Bool):List PV:=(L'1 V.length).map fun p=>if done p then V.getD p .any else .any
def frM(ios:List IOper)(V:List PV)(done:Nat->Bool)(fr0:List PV):List PV:=(L'1 fr0.length).map fun i=>match (L'1 ios.length).find? (fun p=>done p&&(ios.getD p default).dst==some i)with
|some p=>V.getD p .any
|none=>fr0.getD i .any
section
variable {P:Program}{mf:Md}{orc:Orc}{N:Nat}{slots:List Nat}{ops:Array Oper}{ord:List Nat}{ios:List IOper}{chk:List (Nat×Nat)}{b:Array Nat}{c:Ctx}{V:List PV}{Fr:Nat->List PV}{Mm:Nat->List Blk}{fr0:List PV}{mem0:List Blk}
variable {G0:Gh}{w0:World}{listed:Array Bool}{ps:Nat}{G:Gh}{w:World}{a:Act}
theorem getD_some{α:Type}{l:List α}{i:Nat}{x d:α}(h:l[i]?=some x):l.getD i d=x:=by rw[N'u,h];rfl
theorem zj6{α:Type}{l:List α}{i:Nat}{d:α}(h:i<l.length):l[i]?=some (l.getD i d):=by rw[N'u,List.getElem?_eq_getElem h];rfl
theorem z17p{done:Nat->Bool}{p:Nat}(h:p<V.length):(rsM V done)[p]?=some (if done p then V.getD p .any else .any):=by
 simp[rsM,N'i,P'2 h]
theorem zhu{done:Nat->Bool}{i:Nat}(h:i<fr0.length):(frM ios V done fr0)[i]?=some (match (L'1 ios.length).find? (fun p=>done p&&(ios.getD p default).dst==some i)with
 |some p=>V.getD p .any
 |none=>fr0.getD i .any):=by
 simp only[frM,N'i,P'2 h,L'z]
theorem z17q{done:Nat->Bool}:(rsM V done).length=V.length:=by simp[rsM]
theorem zhv{done:Nat->Bool}:(frM ios V done fr0).length=fr0.length:=by simp[frM]
theorem zgo{done:Nat->Bool}{i p:Nat}(h:(L'1 ios.length).find? (fun p=>done p&&(ios.getD p default).dst==some i)=some p):p<ios.length/\done p=true/\(ios.getD p default).dst=some i:=by
 have h1:=List.find?_some h
 have h2:=List.mem_of_find?_eq_some h
 simp only[L'c,beq_iff_eq]at h1
 exact⟨N's.1 h2,h1.1,h1.2⟩
theorem zgp{done:Nat->Bool}{i:Nat}(h:(L'1 ios.length).find? (fun p=>done p&&(ios.getD p default).dst==some i)=none):∀p,p<ios.length->done p=true->(ios.getD p default).dst≠some i:=by
 intro p hp hd he
 have:=List.find?_eq_none.1 h p (N's.2 hp)
 rw[N'u]at he
 simp[hd]at this
 exact this he
variable (S:Setup P mf orc N slots ops ord ios chk b c V Fr Mm fr0 mem0)(I:DInv N slots ops ord ios b V Mm fr0 mem0 G0 w0 listed ps G w a)
include S
theorem Setup.atLt{p:Nat}(hp:p<ios.length):ord.getD p 0<ops.size:=by
 obtain⟨o,q,h1,h2,h3,h4⟩:=S.at hp
 exact(Array.getElem?_eq_some_iff.1 h2).1
theorem Setup.lin'{x y:Nat}(hx:x<ios.length)(hy:y<ios.length)(h:(b.getD (ord.getD x 0) 0).testBit (ord.getD y 0)=true):y<x:=by
 rcases N'v y x with h1|h1
 ·exact h1
 ·have:=S.D.lin x y (by rw[<-S.D.iosL];exact hx) (by rw[<-S.D.iosL];exact hy) h1
  rw[h]at this;cases this
theorem Setup.cmpCase{x y:Nat}(hx:x<ios.length)(hy:y<ios.length)(h:cmp b (ord.getD x 0) (ord.getD y 0)=true):x=y\/(y<x/\(b.getD (ord.getD x 0) 0).testBit (ord.getD y 0)=true)\/(x<y/\(b.getD (ord.getD y 0) 0).testBit (ord.getD x 0)=true):=by
 simp only[cmp,Bool.or_eq_true,beq_iff_eq]at h
 rcases h with(h|h)|h
 ·exact .inl (S.ordInj hx hy h)
 ·exact .inr (.inl ⟨S.lin' hx hy h,h⟩)
 ·exact .inr (.inr ⟨S.lin' hy hx h,h⟩)
include I
theorem z14w:RelO G w c a (rsM V (zct ord listed)) (frM ios V (zct ord listed) fr0):=by
 constructor
 ·intro i s y hi hy
  rw[S.hc.cslots]at hi
  have hil:i<fr0.length:=by rw[S.hfl];exact(L'b.1 hi).1
  rw[zhu hil,Option.some.injEq]at hy
  split at hy
  ·rename_i p hp
   obtain⟨h1,h2,h3⟩:=zgo hp
   obtain⟨s',h4,h5⟩:=S.dst h1 h3
   rw[hi]at h4;cases h4
   exact I.vals p s y h1 h2 h5 (by rw[<-hy];exact zj6 (by rw[S.t.len];exact h1))
  ·rename_i hn
   exact I.slots i s y hi (by rw[<-hy];exact zj6 hil) (zgp hn)
 ·intro j s y hj hy
  have hjl:j<V.length:=by rw[<-z17q (V:=V)];exact(L'b.1 hy).1
  rw[z17p hjl,Option.some.injEq]at hy
  have hjn:j<ios.length:=by rw[<-S.t.len];exact hjl
  split at hy
  ·rename_i hd
   refine I.vals j s y hjn hd ?_ (by rw[<-hy];exact zj6 hjl)
   obtain⟨o,q,h1,h2,h3,h4⟩:=S.at hjn
   rw[S.hc.cops,N'i,h1,L'z,Option.some.injEq]at hj
   exact hj
  ·subst hy;trivial
theorem zt3{y:Nat}(hy:y<ios.length)(hnd:zct ord listed y=false)(R:∀x,x<ios.length->(b.getD (ord.getD y 0) 0).testBit (ord.getD x 0)=true->zct ord listed x=true) :
  (∀o∈opds (ios.getD y default).op,ev (V.take y) (Fr y) o=ev (rsM V (zct ord listed)) (frM ios V (zct ord listed) fr0) o) /\
  wanted (V.take y) (ios.getD y default).guard=wanted (rsM V (zct ord listed)) (ios.getD y default).guard:=by
 obtain⟨o,q,h1,h2,h3,h4⟩:=S.at hy
 have rd:∀j,j∈rsOf (ios.getD y default)->(V.take y)[j]?=(rsM V (zct ord listed))[j]?:=by
  intro j hj
  have hbit:=S.D.reads y _ j h3 hj
  rcases N'v j ios.length with hjn|hjn
  ·have hjy:=S.lin' hy hjn hbit
   have hd:=R j hjn hbit
   have hjl:j<V.length:=by rw[S.t.len];exact hjn
   rw[z17p hjl,if_pos hd,List.getElem?_take_of_lt hjy]
   exact zj6 hjl
  ·rw[L'r (by rw[List.length_take,S.t.len];omega),L'r (by rw[z17q,S.t.len];exact hjn)]
 constructor
 ·intro op hop
  cases op with
  |c x=>rfl
  |r j=>exact rd j (List.mem_append_left _ (N'j.2 ⟨.r j,hop,rfl⟩))
  |v i=>
   have hin:i∈vsOf (ios.getD y default):=N'j.2 ⟨.v i,hop,rfl⟩
   simp only[ev]
   rcases N'v i fr0.length with hil|hil
   ·rw[zhu hil]
    have hsl:∀p,p<ios.length->(ios.getD p default).dst=some i->p=y\/(y<p/\(b.getD (ord.getD p 0) 0).testBit (ord.getD y 0)=true)\/(p<y/\(b.getD (ord.getD y 0) 0).testBit (ord.getD p 0)=true):=fun p hp hd=>S.cmpCase hp hy (S.D.slotsC p y i (by rw[<-S.D.iosL];exact hp) (by rw[<-S.D.iosL];exact hy) hd hin)
    split
    ·rename_i p hp
     obtain⟨k1,k2,k3⟩:=zgo hp
     rcases hsl p k1 k3 with h|⟨h,hb⟩|⟨h,hb⟩
     ·subst h;rw[hnd]at k2;cases k2
     ·have:=I.clos p y k1 hy k2 hb
      rw[hnd]at this;cases this
     ·rw[S.frDone (by omega) h k3]
      exact zj6 (by rw[S.t.len];exact k1)
    ·rename_i hn
     rw[S.frNone (by omega)]
     ·exact zj6 hil
     ·intro p hp hd
      rcases hsl p (by omega) hd with h|⟨h,hb⟩|⟨h,hb⟩
      ·omega
      ·omega
      ·exact zgp hn p (by omega) (R p (by omega) hb) hd
   ·rw[L'r (by rw[S.frLen (by omega),<-S.hfl];exact hil),L'r (by rw[zhv];exact hil)]
 ·cases hg:(ios.getD y default).guard with
  |none=>rfl
  |some g=>
   obtain⟨j,want⟩:=g
   simp only[wanted]
   rw[rd j (List.mem_append_right _ (by rw[hg];simp))]
theorem le_ps{y:Nat}(hy:y<ios.length)(R:∀x,x<ios.length->(b.getD (ord.getD y 0) 0).testBit (ord.getD x 0)=true->zct ord listed x=true):y<=ps:=by
 rcases N'v ps y with h|h
 ·exfalso
  have hp:ps<ios.length:=by omega
  have hF:=I.psF hp
  have hnot:zct ord listed ps=true->False:=fun hd=>by have:=I.lt ps hp hd;omega
  rcases S.D.asap ps y (by rw[<-S.D.iosL];exact hp) (by rw[<-S.D.iosL];exact hy) hF h with h1|⟨x,hx,h2,h3,h4⟩
  ·rcases S.D.cmpF ps y (by rw[<-S.D.iosL];exact hp) (by rw[<-S.D.iosL];exact hy) hF (.inl h1)with h2|⟨h2,_⟩
   ·rcases S.cmpCase hp hy h2 with h3|⟨h3,_⟩|⟨_,h3⟩
    ·omega
    ·omega
    ·exact hnot (R ps hp h3)
   ·revert h1 h2
    cases (ios.getD y default).op<;>simp[isF,znr]
  ·have hxn:x<ios.length:=by rw[S.D.iosL];exact hx
   have:=I.lt x hxn (R x hxn h4)
   omega
 ·exact h
omit I
theorem zcu(hs:listed.size=ops.size){y p:Nat}(hy:y<ios.length)(hp:p<ios.length):zct ord (listed.setIfInBounds (ord.getD y 0) true) p=(zct ord listed p||p==y):=by
 have hyl:=S.atLt hy
 unfold zct
 by_cases hpy:p=y
 ·subst hpy
  rw[Array.getD_eq_getD_getElem?,Array.getElem?_setIfInBounds_self_of_lt (by rw[hs];exact hyl)]
  simp
 ·rw[Array.getD_eq_getD_getElem?,Array.getElem?_setIfInBounds_ne (fun e=>hpy (S.ordInj hp hy e.symm)),<-Array.getD_eq_getD_getElem?]
  simp[hpy]
omit S in
theorem zvh(x:Nat)(hx:x<=ios.length):∃ps',x<=ps'/\ps'<=ios.length/\(ps'<ios.length->isF (ios.getD ps' default).op=true)/\∀p,x<=p->p<ps'->isF (ios.getD p default).op=false:=by
 induction hd:ios.length-x generalizing x with
 |zero=>exact⟨x,L'l _,hx,fun h=>by omega,fun p h1 h2=>by omega⟩
 |succ d ih=>
  cases hF:isF (ios.getD x default).op with
  |true=>exact⟨x,L'l _,hx,fun _=>hF,fun p h1 h2=>by omega⟩
  |false=>
   obtain⟨ps',h1,h2,h3,h4⟩:=ih (x+1) (by omega) (by omega)
   refine⟨ps',by omega,h2,h3,fun p h5 h6=>?_⟩
   by_cases hp:p=x
   ·subst hp;exact hF
   ·exact h4 p (by omega) h6
theorem Setup.newer{p:Nat}(hp:p<ios.length)(hF:isF (ios.getD p default).op=false)(h:Mm (p+1)≠Mm p):isA (ios.getD p default).op=true/\wanted (V.take p) (ios.getD p default).guard=some true/\(Mm p).length<(Mm (p+1)).length:=by
 rcases S.grow1 hp with h1|⟨h1,h2,k,h3⟩|⟨h1,_⟩
 ·exact(h h1).elim
 ·exact⟨h1,h2,by rw[h3];simp⟩
 ·rw[hF]at h1;cases h1
include I
theorem DInv.after{y:Nat}(hy:y<ios.length)(hnd:zct ord listed y=false)(R:∀x,x<ios.length->(b.getD (ord.getD y 0) 0).testBit (ord.getD x 0)=true->zct ord listed x=true)
  {o:Oper} (ho:ops[ord.getD y 0]?=some o) {v:PV} {v':Value} (hv:V[y]?=some v) {ps':Nat} {G':Gh} {w':World} (h1:ps'<=ios.length) (h2:ps'<ios.length->isF (ios.getD ps' default).op=true) (h3:y<ps') (h3':ps<=ps')
  (h4:∀p,p<ps'->isF (ios.getD p default).op=true->zct ord listed p=true\/p=y) (g:Good G' w' (Mm ps')) (le:Le G w G' w') (rp:Rp G' w' v v')
  (late':∀p,p<ps'->p≠y->zct ord listed p=false->Mm (p+1)≠Mm p->G'.ids (Mm p).length=none/\(Mm ps')[(Mm p).length]?=(Mm (p+1))[(Mm p).length]?) (wx':Wx G w (Mm ps) G' w' (Mm ps')) (ids':∀b,b<mem0.length->G'.ids b=G.ids b) :
  DInv N slots ops ord ios b V Mm fr0 mem0 G0 w0 (listed.setIfInBounds (ord.getD y 0) true) ps' G' w' (a.put o.dst v'):=by
 have ds:∀{p},p<ios.length->(zct ord (listed.setIfInBounds (ord.getD y 0) true) p=true↔zct ord listed p=true\/p=y):=by
  intro p hp
  rw[zcu S I.size hy hp]
  simp
 have hdl:∀s,o.dst=some s->s<N:=by
  intro s hs
  refine S.hc.dlt s (N'j.2 ⟨o,?_,hs⟩)
  exact M'v (i:=ord.getD y 0) (by simpa using ho)
 have hod:=opAt' ho
 refine⟨by rw[Array.size_setIfInBounds];exact I.size,?_,h1,h2,?_,?_,g,?_,?_,?_,by rw[z1az];exact I.tm,by rw[zco];exact I.defs,I.wx.trans wx',fun b hb=>(ids' b hb).trans (I.ids b hb)⟩
 ·intro y' x hy' hx hd hb
  rw[ds hx]
  rcases(ds hy').1 hd with h|h
  ·exact .inl (I.clos y' x hy' hx h hb)
  ·subst h;exact .inl (R x hx hb)
 ·intro y' hy' hd
  rcases(ds hy').1 hd with h|h
  ·have:=I.lt y' hy' h;omega
  ·omega
 ·intro p hp hF
  rw[ds (by omega)]
  exact h4 p hp hF
 ·intro p s u hp hd hs hu
  by_cases hpy:p=y
  ·subst hpy
   rw[hv]at hu;cases hu
   rw[hod]at hs
   rw[hs,zje I.tm (hdl s hs)]
   exact rp
  ·have hd':zct ord listed p=true:=((ds hp).1 hd).resolve_right hpy
   have hne:o.dst≠some s:=fun e=>hpy (S.dstInj hp hy hs (hod.trans e))
   rw[zjd hne]
   exact Rp.mono le (I.vals p s u hp hd' hs hu)
 ·intro i s u hi hu hn
  have hne:o.dst≠some s:=fun e=>hn y hy ((ds hy).2 (.inr rfl)) (S.dst' hy hi (hod.trans e))
  rw[zjd hne]
  exact Rp.mono le (I.slots i s u hi hu fun p hp hd=>hn p hp ((ds hp).2 (.inl hd)))
 ·intro p hp hd hm
  have hn:¬(zct ord listed p=true\/p=y):=by
   rw[<-ds (show p<ios.length by omega),hd];simp
  exact late' p hp (fun e=>hn (.inr e)) (by simpa using fun e=>hn (.inl e)) hm
theorem DInv.afterF(hp:ps<ios.length)(R:∀x,x<ios.length->(b.getD (ord.getD ps 0) 0).testBit (ord.getD x 0)=true->zct ord listed x=true)
  {o:Oper} (ho:ops[ord.getD ps 0]?=some o) {v:PV} {v':Value} (hv:V[ps]?=some v) {G':Gh} {w':World} (g:Good G' w' (Mm (ps+1))) (x:Ext G w (Mm ps) G' w' (Mm (ps+1))) (rp:Rp G' w' v v') :
  ∃ps',DInv N slots ops ord ios b V Mm fr0 mem0 G0 w0 (listed.setIfInBounds (ord.getD ps 0) true) ps' G' w' (a.put o.dst v'):=by
 have hnd:zct ord listed ps=false:=by
  cases hd:zct ord listed ps with
  |false=>rfl
  |true=>have:=I.lt ps hp hd;omega
 obtain⟨ps',k1,k2,k3,k4⟩:=zvh (ios:=ios) (ps+1) (by omega)
 obtain⟨ks,hks⟩:=S.between k1 k2 k4
 obtain⟨g',x'⟩:=g.extend ks
 rw[<-hks]at g' x'
 have hl0:=S.lenMono (x:=0) (y:=ps) (by omega) (by omega)
 rw[S.t.mm0]at hl0
 refine⟨ps',DInv.after S I hp hnd R ho hv k2 k3 (by omega) (by omega) ?_ g' (x.le I.good) rp ?_ (x.trans x').toWx (fun b hb=>x.ids b (by omega))⟩
 ·intro p h1 h2
  rcases Nat.lt_trichotomy p ps with h|h|h
  ·exact .inl (I.wr p h h2)
  ·exact .inr h
  ·rw[k4 p (by omega) h1]at h2;cases h2
 ·intro p h1 h2 h3 h4
  have hnF:isF (ios.getD p default).op=false:=by
   rcases N'v p ps with h|h
   ·cases hF:isF (ios.getD p default).op with
    |false=>rfl
    |true=>rw[I.wr p h hF]at h3;cases h3
   ·exact k4 p (by omega) h1
  have hlt:=(S.newer (by omega) hnF h4).2.2
  rcases N'v p ps with h|h
  ·obtain⟨l1,l2⟩:=I.late p h h3 h4
   have hlen:=S.lenMono (x:=p+1) (y:=ps) (by omega) (by omega)
   refine⟨(x.ids _ (by omega)).trans l1,?_⟩
   rw[x'.un _ (by have:=x.len;omega) ((x.ids _ (by omega)).trans l1),x.un _ (by omega) l1,l2]
  ·have hlen:=S.lenMono (x:=ps+1) (y:=p) (by omega) (by omega)
   refine⟨g.none hlen,?_⟩
   refine S.stay hlt (by omega) k2 fun p' h5 h6 h7=>?_
   rw[k4 p' (by omega) h6]at h7;cases h7
theorem DInv.afterQ{y:Nat}(hy:y<ps)(hnd:zct ord listed y=false)(R:∀x,x<ios.length->(b.getD (ord.getD y 0) 0).testBit (ord.getD x 0)=true->zct ord listed x=true)
  {o:Oper} (ho:ops[ord.getD y 0]?=some o) {v:PV} {v':Value} (hv:V[y]?=some v) {G':Gh} {w':World} (g:Good G' w' (Mm ps)) (wx:Wx G w (Mm ps) G' w' (Mm ps)) (le:Le G w G' w') (rp:Rp G' w' v v')
  (ids':∀b,b<(Mm ps).length->b≠(Mm y).length->G'.ids b=G.ids b) (ids0:∀b,b<mem0.length->G'.ids b=G.ids b) :
  (Mm (y+1)≠Mm y\/∀b,b<(Mm ps).length->G'.ids b=G.ids b)->DInv N slots ops ord ios b V Mm fr0 mem0 G0 w0 (listed.setIfInBounds (ord.getD y 0) true) ps G' w' (a.put o.dst v'):=by
 intro hA
 have hpn:=I.psn
 have nF:∀p,p<ps->zct ord listed p=false->isF (ios.getD p default).op=false:=by
  intro p hp hd
  cases hF:isF (ios.getD p default).op with
  |false=>rfl
  |true=>rw[I.wr p hp hF]at hd;cases hd
 refine DInv.after S I (by omega) hnd R ho hv I.psn I.psF hy (L'l _) (fun p hp hF=>.inl (I.wr p hp hF)) g le rp ?_ wx ids0
 intro p h1 h2 h3 h4
 obtain⟨l1,l2⟩:=I.late p h1 h3 h4
 have n1:=(S.newer (by omega) (nF p h1 h3) h4).2.2
 have n2:=S.lenMono (x:=p+1) (y:=ps) (by omega) (by omega)
 refine⟨?_,l2⟩
 by_cases hq:(Mm p).length=(Mm y).length
 ·rcases hA with hA|hA
  ·exfalso
   rcases N'v p y with h|h
   ·have:=S.lenMono (x:=p+1) (y:=y) (by omega) (by omega);omega
   ·have hyp:y+1<=p:=by omega
    have n3:=S.lenMono (x:=y+1) (y:=p) (by omega) (by omega)
    have:=(S.newer (by omega) (nF y hy hnd) hA).2.2;omega
  ·rw[hA _ (by omega)];exact l1
 ·rw[ids' _ (by omega) hq];exact l1
theorem z1cx (hor:OrcOk P orc) {y:Nat} (hy:y<ios.length) (hnd:zct ord listed y=false) (R:∀x,x<ios.length->(b.getD (ord.getD y 0) 0).testBit (ord.getD x 0)=true->zct ord listed x=true)
  {K:Act->World->Prop} {Q:Exit->Act->World->Prop} (hK:∀ps' G' w' a',DInv N slots ops ord ios b V Mm fr0 mem0 G0 w0 (listed.setIfInBounds (ord.getD y 0) true) ps' G' w' a'->K a' w'):wpOp P ops Q (ord.getD y 0) K a w:=by
 obtain⟨o,q,h1,h2,h3,h4⟩:=S.at hy
 obtain⟨v,hv,_,hst⟩:=S.step hy
 obtain⟨hev,hwant⟩:=zt3 S I hy hnd R
 have hr:=z14w S I
 have hle:=le_ps S I hy R
 have hpn:=I.psn
 have hgd:(ios.getD y default).guard=o.guard.map fun g=>(ord.idxOf g.1,g.2):=by rw[h4];rfl
 have hrl:(rsM V (zct ord listed)).length<=ord.length:=by rw[z17q,S.t.len,S.D.iosL,S.D.ordL];exact L'l _
 have wok:∀{bb},wanted (V.take y) (ios.getD y default).guard=some bb->Region.wanted o (yielded ops a.tmps)=bb:=by
  intro bb hb
  rw[hwant,hgd]at hb
  exact z1hf S.hc hr.rs hrl (M'v h1) h2 hb
 have hl0:mem0.length<=(Mm y).length:=by
  have:=S.lenMono (x:=0) (y:=y) (by omega) (by omega)
  rwa [S.t.mm0]at this
 have hlps:(Mm y).length<=(Mm ps).length:=S.lenMono hle hpn
 unfold wpOp
 simp only[h2]
 rcases hst with⟨hw,rfl,hm⟩|⟨hw,hs⟩
 ·rw[wok hw,if_neg (by simp)]
  rcases N'v y ps with hlt|hge
  ·exact hK ps G w _ (DInv.afterQ S I hlt hnd R h2 hv I.good (.refl _ _ _) ((Ext.refl G w (Mm ps)).le I.good) rfl (fun _ _ _=>rfl) (fun _ _=>rfl) (.inr fun _ _=>rfl))
  ·have:y=ps:=by omega
   subst this
   obtain⟨ps',hd⟩:=DInv.afterF S I hy R h2 hv (G':=G) (w':=w) (v':=undef) (by rw[hm];exact I.good) (by rw[hm];exact .refl _ _ _) rfl
   exact hK ps' G w _ hd
 ·rw[wok hw,if_pos rfl]
  have hs':=hs
  rw[z1cn hev]at hs
  cases hop:opOf P mf q c o with
  |none=>rw[h4]at hs;simp [zzi,hop,z1cm]at hs
  |some iop=>
   have hiop:(ios.getD y default).op=iop:=by rw[h4];simp [zzi,hop]
   rw[hiop]at hs hs'
   refine .inl ?_
   rcases N'v y ps with hlt|hge
   ·have hnF:isF (ios.getD y default).op=false:=by
     cases hF:isF (ios.getD y default).op with
     |false=>rfl
     |true=>rw[I.wr y hlt hF]at hnd;cases hnd
    have quiet:z1cm orc (rsM V (zct ord listed)) (frM ios V (zct ord listed) fr0) (Mm ps) iop=some (v,Mm ps)->o.wp P a w K Q:=by
     intro hq
     refine op_ok hor I.good hr hop hq K Q ?_
     intro G' w' v' g x r
     exact hK ps G' w' _ (DInv.afterQ S I hlt hnd R h2 hv g x.toWx (x.le I.good) r (fun b hb _=>x.ids b hb) (fun b hb=>x.ids b (by omega)) (.inr x.ids))
    have later:∀p,y<=p->p<ps->isF (ios.getD p default).op=true->isQ iop=true->znr iop=true/\(p,y)∈chk:=by
     intro p k1 k2 k3 k4
     rcases S.D.cmpF p y (by rw[<-S.D.iosL];omega) (by rw[<-S.D.iosL];omega) k3 (.inr (by rw[hiop];exact k4))with k5|k5
     ·exfalso
      rcases S.cmpCase (by omega) hy k5 with k6|⟨k6,k7⟩|⟨k6,_⟩
      ·subst k6;rw[hnF]at k3;cases k3
      ·have:=I.clos p y (by omega) hy (I.wr p k2 k3) k7
       rw[hnd]at this;cases this
      ·omega
     ·rw[hiop]at k5;exact k5
    rw[hiop]at hnF
    rcases zy1 _ hnF with k|k|⟨sz,x,i,k⟩|k|k|k
    ·exact quiet ((z12v k hs).2 _)
    ·subst k
     refine quiet ?_
     have hm:=zxu (.inr (.inr ⟨_,_,_,rfl⟩)) hs
     rw[hm]at hs
     simp only[z1cm]at hs ⊢
     split at hs
     ·simp only[M'0,Prod.mk.injEq]at hs ⊢
      obtain⟨u,e1,e2,e3⟩:=hs
      exact⟨u,e1,e2,trivial⟩
     ·cases hs
    ·subst k
     refine quiet ?_
     have hm:=zxu (.inr (.inr ⟨_,_,_,rfl⟩)) hs
     rw[hm]at hs
     simp only[z1cm]at hs ⊢
     split at hs
     ·simp only[M'0,Prod.mk.injEq]at hs ⊢
      obtain⟨u,e1,e2,e3⟩:=hs
      exact⟨u,e1,e2,trivial⟩
     ·cases hs
    ·obtain⟨v',w',kb,res,e1,e2,e3,e4⟩:=zxt hr k hop hs
     have hne:Mm (y+1)≠Mm y:=by
      intro e
      have:=congrArg List.length (e4.symm.trans e)
      simp at this
     obtain⟨l1,l2⟩:=I.late y hlt hnd hne
     rw[e4,N'n (L'l _)]at l2
     simp at l2
     obtain⟨cb,cp,m1,m2⟩:=e2.ok
     obtain⟨n1,n2,n3⟩:=I.good.name l2 l1 e2.grew m1 (fun hl=>(m2 _ hl).1)
     have:=hK ps _ w' _ (DInv.afterQ S I hlt hnd R h2 hv n1 n2 n3 (by rw[e3];exact(m2 _ n3).2) (fun b hb hn=>Gh.bind_ne hn) (fun b hb=>Gh.bind_ne (by omega)) (.inl hne))
     simp only[Oper.wp,e1,Oper.upon]
     exact this
    ·refine quiet (zxv k hs fun bl hbl hlen=>?_)
     refine S.stay hlen hle hpn fun p k1 k2 k3=>?_
     have hq:isQ iop=true:=by revert k;cases iop<;>simp [isL,isQ]
     obtain⟨_,k5⟩:=later p k1 k2 k3 hq
     intro hin
     refine S.hchk p y k5 (by omega) hy bl hin ?_
     rw[hiop]
     have hcl:footR (V.take y) (Fr y) iop=footR (rsM V (zct ord listed)) (frM ios V (zct ord listed) fr0) iop:=by
      unfold footR
      rw[hiop]at hev
      rw[ze2 hev]
     rw[hcl];exact hbl
    ·have hq:isQ iop=true:=by revert k;cases iop<;>simp [isR,isQ]
     have hnl:znr iop=false:=by revert k;cases iop<;>simp [isR,znr]
     obtain⟨ks,hks⟩:=S.between hle hpn (fun p k1 k2=>by
      cases hF:isF (ios.getD p default).op with
      |false=>rfl
      |true=>rw[(later p k1 k2 hF hq).1]at hnl;cases hnl)
     have hmask:Mask (Mm ps) (Mm y++L'0 ks.length .dead):=by
      refine⟨by rw[hks];simp,fun bl kb hb=>?_⟩
      rcases N'v bl (Mm y).length with hbl|hbl
      ·right
       rw[L'm hbl]at hb
       rw[hks,L'm hbl];exact hb
      ·left
       rw[N'n hbl]at hb
       exact(List.mem_replicate.1 (M'v hb)).2
     have hgm:=I.good.mask hmask
     have hlm:=mX_le (G:=G) (w:=w) (mm:=Mm y++L'0 ks.length .dead) I.good.ST
     refine op_ok hor hgm ⟨fun i s z hi hz=>(hr.fr i s z hi hz).mono hlm,fun j s z hj hz=>(hr.rs j s z hj hz).mono hlm⟩ hop (zxz (d:=ks.length) k hs) K Q ?_
     intro G1 w' v' g x r
     obtain⟨G',g',x',hle'⟩:=I.good.unmask hmask g x
     have r:=r.mono hle'
     exact hK ps G' w' _ (DInv.afterQ S I hlt hnd R h2 hv g' x'.toWx (x'.le I.good) r (fun b hb _=>x'.ids b hb) (fun b hb=>x'.ids b (by omega)) (.inr x'.ids))
   ·have:y=ps:=by omega
    subst this
    refine op_ok hor I.good hr hop hs K Q ?_
    intro G' w' v' g x r
    obtain⟨ps',hd⟩:=DInv.afterF S I hy R h2 hv g x r
    exact hK ps' G' w' _ hd
omit S I in
theorem zbx{l:List Nat}{y:Nat}(hl:l.Nodup)(hy:y∈l)(h:listed.getD y false=false)(hs:y<listed.size) :
  (l.filter fun k=>!(listed.setIfInBounds y true).getD k false).length+1=(l.filter fun k=>!listed.getD k false).length:=by
 induction l with
 |nil=>cases hy
 |cons x l ih=>
  rw[List.nodup_cons]at hl
  by_cases hx:x=y
  ·subst hx
   have same:(l.filter fun k=>!(listed.setIfInBounds x true).getD k false)=l.filter fun k=>!listed.getD k false:=by
    apply List.filter_congr
    intro k hk
    rw[Array.getD_eq_getD_getElem?,Array.getElem?_setIfInBounds_ne (by rintro rfl;exact hl.1 hk),<-Array.getD_eq_getD_getElem?]
   rw[N'x (by rw[Array.getD_eq_getD_getElem?,Array.getElem?_setIfInBounds_self_of_lt hs];simp),N'y (by rw[h];rfl),same,M'2]
  ·have ih':=ih hl.2 (by simpa [Ne.symm hx]using hy)
   have he:(listed.setIfInBounds y true).getD x false=listed.getD x false:=by
    rw[Array.getD_eq_getD_getElem?,Array.getElem?_setIfInBounds_ne (fun e=>hx e.symm),<-Array.getD_eq_getD_getElem?]
   cases hd:listed.getD x false with
   |true=>rw[N'x (by rw[he,hd];simp),N'x (by rw[hd];simp)];exact ih'
   |false=>rw[N'y (by rw[he,hd];rfl),N'y (by rw[hd];rfl),M'2,M'2,ih']
omit I in
theorem z3c(hor:OrcOk P orc){Q:Exit->Act->World->Prop}(hQ:∀G' w' a',(∀p,p<ios.length->True)->Good G' w' (Mm ios.length)->Wx G0 w0 mem0 G' w' (Mm ios.length)->(∀b,b<mem0.length->G'.ids b=G0.ids b)->RelS slots N G' w' ⟨Fr ios.length,Mm ios.length⟩ a'->Q .normal a' w') :
  ∀(fuel:Nat) (listed:Array Bool) (ps:Nat) (G:Gh) (w:World) (a:Act),DInv N slots ops ord ios b V Mm fr0 mem0 G0 w0 listed ps G w a->(ord.filter fun k=>!listed.getD k false).length<=fuel->wpAny P .any ops Q fuel listed a w:=by
 have rdy:∀(listed:Array Bool) (ps:Nat) (G:Gh) (w:World) (a:Act),DInv N slots ops ord ios b V Mm fr0 mem0 G0 w0 listed ps G w a->∀i∈Region.ready .any ops listed,∃y,y<ios.length/\ord.getD y 0=i/\zct ord listed y=false/\∀x,x<ios.length->(b.getD (ord.getD y 0) 0).testBit (ord.getD x 0)=true->zct ord listed x=true:=by
  intro listed ps G w a I i hi
  simp only[Region.ready,N'z,N's,L'c,N'e]at hi
  obtain⟨h1,h2,h3⟩:=hi
  have hil:i<ops.toList.length:=by simpa using h1
  obtain⟨y,hy⟩:=P'0.1 (S.D.ordS i hil)
  have hyl:y<ios.length:=by rw[S.D.iosL,<-S.D.ordL];exact(L'b.1 hy).1
  have hyi:ord.getD y 0=i:=getD_some hy
  have hsz:i<listed.size:=by rw[I.size];exact h1
  refine⟨y,hyl,hyi,?_,?_⟩
  ·unfold zct
   rw[hyi]
   rw[Array.getD_eq_getD_getElem?,Array.getElem?_eq_getElem hsz]at h2 ⊢
   simpa using h2
  ·intro x hx hb
   rw[hyi]at hb
   obtain⟨o,ho,e,he,hbind,hj⟩:=S.D.clos i (ord.getD x 0) hil (by simpa using S.atLt hx) hb
   have ho':ops[i]?=some o:=by simpa using ho
   simp only[ho',L'z,P'5,Array.all_eq_true_iff_forall_mem]at h3
   have:=h3 e (by simpa using he)
   rw[hbind]at this
   simp only[N'p,N'q]at this
   rcases hj with hj|hj
   ·unfold zct;rw[<-hj];exact this
   ·have hon:=(S.D.edges i o ho e he hbind).2
    obtain⟨z,hz⟩:=P'0.1 (S.D.ordS e.on hon)
    have hzl:z<ios.length:=by rw[S.D.iosL,<-S.D.ordL];exact(L'b.1 hz).1
    have hzi:ord.getD z 0=e.on:=getD_some hz
    exact I.clos z x hzl hx (by unfold zct;rw[hzi];exact this) (by rw[hzi];exact hj)
 have fin:∀(listed:Array Bool) (ps:Nat) (G:Gh) (w:World) (a:Act),DInv N slots ops ord ios b V Mm fr0 mem0 G0 w0 listed ps G w a->Region.ready .any ops listed=[]->Q .normal a w:=by
  intro listed ps G w a I hr
  have all:∀y,y<ios.length->zct ord listed y=true:=by
   intro y
   induction y using Nat.strongRecOn with
   |ind y ih=>
    intro hy
    cases hd:zct ord listed y with
    |true=>rfl
    |false=>
     exfalso
     have hat:=S.atLt hy
     obtain⟨o,q,h1,h2,h3,h4⟩:=S.at hy
     have:ord.getD y 0∈Region.ready .any ops listed:=by
      simp only[Region.ready,N'z,N's,L'c,N'e]
      refine⟨hat,?_,?_⟩
      ·unfold zct at hd
       have hsz:ord.getD y 0<listed.size:=by rw[I.size];exact hat
       rw[Array.getD_eq_getD_getElem?,Array.getElem?_eq_getElem hsz]at hd ⊢
       simpa using hd
      ·simp only[h2,L'z,P'5,Array.all_eq_true_iff_forall_mem]
       intro e he
       cases hb:Region.binds .any e with
       |false=>rfl
       |true=>
        simp only[N'p,N'q]
        obtain⟨e1,e2⟩:=S.D.edges _ o (by simpa using h2) e (by simpa using he) hb
        obtain⟨z,hz⟩:=P'0.1 (S.D.ordS e.on e2)
        have hzl:z<ios.length:=by rw[S.D.iosL,<-S.D.ordL];exact(L'b.1 hz).1
        have hzi:ord.getD z 0=e.on:=getD_some hz
        have:=ih z (S.lin' hy hzl (by rw[hzi];exact e1)) hzl
        unfold zct at this
        rw[hzi]at this;exact this
     rw[hr]at this;cases this
  have hps:ps=ios.length:=by
   have:=I.psn
   rcases N'v ps ios.length with h|h
   ·have:=I.lt ps h (all ps h);omega
   ·omega
  have hg:=I.good
  have hwx:=I.wx
  rw[hps]at hg hwx
  refine hQ G w a (fun _ _=>trivial) hg hwx I.ids ⟨hg,?_,S.frLen (L'l _),I.tm,I.defs⟩
  intro i s y hi hy
  by_cases hex:∃p,p<ios.length/\(ios.getD p default).dst=some i
  ·obtain⟨p,hp,hd⟩:=hex
   have hy:(Fr ios.length)[i]?=some y:=hy
   rw[S.frDone (L'l _) hp hd]at hy
   obtain⟨s',e1,e2⟩:=S.dst hp hd
   rw[hi]at e1;cases e1
   exact I.vals p s y hp (all p hp) e2 hy
  ·have hn:∀p,p<ios.length->(ios.getD p default).dst≠some i:=fun p hp hd=>hex ⟨p,hp,hd⟩
   have hy:(Fr ios.length)[i]?=some y:=hy
   rw[S.frNone (L'l _) hn]at hy
   exact I.slots i s y hi hy fun p hp _=>hn p hp
 intro fuel
 induction fuel with
 |zero=>
  intro listed ps G w a I hc
  have hr:Region.ready .any ops listed=[]:=by
   cases hrd:Region.ready .any ops listed with
   |nil=>rfl
   |cons i r=>
    exfalso
    obtain⟨y,h1,h2,h3,_⟩:=rdy listed ps G w a I i (by rw[hrd];simp)
    obtain⟨o,q,h5,_⟩:=S.at h1
    have:ord.getD y 0∈ord.filter fun k=>!listed.getD k false:=N'z.2 ⟨M'v h5,by unfold zct at h3;rw[h3];rfl⟩
    have:=List.length_pos_of_mem this
    omega
  exact⟨hr,fin listed ps G w a I hr⟩
 |succ fuel ih=>
  intro listed ps G w a I hc
  refine⟨fin listed ps G w a I,fun i hi=>?_⟩
  obtain⟨y,h1,h2,h3,h4⟩:=rdy listed ps G w a I i hi
  subst h2
  refine z1cx S I hor h1 h3 h4 ?_
  intro ps' G' w' a' I'
  refine ih _ ps' G' w' a' I' ?_
  obtain⟨o,q,h5,_⟩:=S.at h1
  have:=zbx (listed:=listed) S.D.ordN (M'v h5) h3 (by rw[I.size];exact S.atLt h1)
  omega
end

theorem zcy{P:Program}{orc:Orc}{mf:Md}{m n:Nat}(hm:P.follows .mixedOrders=true)(hor:OrcOk P orc):z05 P orc mf m n:=by
 intro N slots id ops ord ios chk hx hs hk st out h G w a hr hmm Q hQ
 have D:=zcx hk
 obtain⟨hc,hl,hios⟩:=z14s hx hs hk D.ordN D.ordLt
 simp only[exec,M'0]at h
 obtain⟨st',h1,rfl⟩:=h
 have hdr:∃ft,runDr orc ios [] st.fr st.mem []=some (st',ft)/\chkOk chk ft=true:=by
  unfold z187 at h1
  split at h1
  ·rename_i hc
   obtain⟨ft,h2⟩:=z181 ios [] st.fr st.mem [] st' h1
   have:chk=[]:=by simpa using hc
   exact⟨ft,h2,by rw[this];rfl⟩
  ·simp only[Option.bind_eq_some_iff]at h1
   obtain⟨⟨st1,ft⟩,h2,h3⟩:=h1
   split at h3
   ·rename_i hk;cases h3;exact⟨ft,h2,hk⟩
   ·cases h3
 obtain⟨ft,h2,h3⟩:=hdr
 obtain⟨V,Fr,Mm,t,rfl,_,hft⟩:=z1g7 ios [] st.fr st.mem [] st' ft h2
 have S:Setup P mf orc N slots ops ord ios chk (Region.before ops) ⟨slots,ord.map fun k=>(ops.toList[k]?).bind (·.dst)⟩ V Fr Mm st.fr st.mem:=by
  refine⟨D,hc,hios,t,?_,hr.len⟩
  intro p y hpy hp hy x hx1 hx2
  have h4:=hft p _ (zj6 (d:=default) hp)
  have h5:=hft y _ (zj6 (d:=default) hy)
  simp only[List.length_nil,Nat.zero_add,List.nil_append]at h4 h5
  have h6:=L'h.1 h3 (p,y) hpy
  simp only[h4,h5]at h6
  have:=L'h.1 h6 x hx1
  simp at this
  exact this hx2
 obtain⟨g1,x1⟩:=hr.good.grew (Grew.drew w)
 obtain⟨ps,k1,k2,k3,k4⟩:=zvh (ios:=ios) 0 (P'1 _)
 obtain⟨ks,hks⟩:=S.between k1 k2 k4
 rw[t.mm0]at hks
 obtain⟨g2,x2⟩:=g1.extend ks
 rw[<-hks]at g2 x2
 have hnd:∀p,zct ord (Array.replicate ops.size false) p=false:=by
  intro p
  unfold zct
  rw[Array.getD_eq_getD_getElem?,Array.getElem?_replicate]
  split<;>rfl
 have I:DInv N slots ops ord ios (Region.before ops) V Mm st.fr st.mem G w (Array.replicate ops.size false) ps G w.drew a:=by
  refine⟨by simp,fun y x _ _ hd=>?_,k2,k3,fun y _ hd=>?_,fun p hp hF=>?_,g2,fun p s v _ hd=>?_,fun i s y hi hy _=>Rp.mono (x1.le hr.good) (hr.fr i s y hi hy),fun p hp _ hne=>?_,hr.size,hr.defers,x1.toWx.trans x2.toWx,fun _ _=>rfl⟩
  ·rw[hnd]at hd;cases hd
  ·rw[hnd]at hd;cases hd
  ·rw[k4 p (P'1 _) hp]at hF;cases hF
  ·rw[hnd]at hd;cases hd
  ·have hl0:=S.lenMono (x:=0) (y:=p) (by omega) (by omega)
   rw[t.mm0]at hl0
   have hlt:=(S.newer (by omega) (k4 p (P'1 _) hp) hne).2.2
   refine⟨g1.none hl0,S.stay hlt (by omega) k2 fun p' h5 h6 h7=>?_⟩
   rw[k4 p' (by omega) h6]at h7;cases h7
 refine wp_region_any hm ?_
 refine z3c S hor ?_ ops.size _ ps G w.drew a I ?_
 ·intro G' w' a' _ g wx ids r
  refine hQ G' w' a' _ rfl ⟨wx,fun b hb=>ids b (by omega),?_⟩ r
  have hl0:=S.lenMono (x:=0) (y:=ios.length) (by omega) (by omega)
  rw[t.mm0]at hl0
  exact L'g hmm hl0
 ·refine L'g (List.length_filter_le _ _) ?_
  rw[D.ordL];simp
end Go.Proofs.YtbaclnecajkknaaGreat.Pi

